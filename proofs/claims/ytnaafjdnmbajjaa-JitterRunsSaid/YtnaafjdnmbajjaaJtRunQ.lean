/- Layer 30: run: the due packets are played. -/
import Derived.Test.YtnaafjdnmbajjaaMemQ
import Derived.Maps.OwnOps
import Derived.Maps.Views
namespace Go.Proofs.Ytnaafjdnmbajjaa
open Go.RowKit
set_option linter.unusedVariables false
set_option linter.unusedSimpArgs false
attribute [local go_sem ↓] run_min_plain run_max_plain
attribute [local go_sem] setCell_drewN alloc_drewN
section
variable {α : Type} {row : α → List Value} {w : World} {B size : Nat} {A : Option Addr} {l : List α}
theorem RowsAt.take (h : RowsAt w B size row A l) (n : Nat) : RowsAt w B size row A (l.take n) := fun h0 => by
  obtain ⟨b, off, rfl, hb, hc⟩ := h (by simp at h0; omega)
  refine ⟨b, off, rfl, hb, fun i a ha j v hv => hc i a ?_ j v hv⟩
  rw [List.getElem?_take] at ha
  split at ha
  · exact ha
  · cases ha
theorem RowsAt.dropAt {b off : Nat} (h : RowsAt w B size row (some ⟨b, off, none⟩) l) (n : Nat) : RowsAt w B size row (some ⟨b, off + n * size, none⟩) (l.drop n) := fun h0 => by
  obtain ⟨b', off', e, hb, hc⟩ := h (by simp at h0; omega)
  injection e with e
  injection e with e1 e2
  subst e1 e2
  refine ⟨b, off + n * size, rfl, hb, fun i a ha j v hv => ?_⟩
  rw [List.getElem?_drop] at ha
  have := hc (n + i) a ha j v hv
  rw [← this]
  congr 2
  rw [Nat.add_mul]; omega
end
theorem Wts.take {w : World} {B : Nat} {A : Option Addr} {l : List TW} (h : Wts w B A l) (n : Nat) : Wts w B A (l.take n) := ⟨h.1.take n, fun a ha => h.2 a (List.mem_of_mem_take ha)⟩
theorem Wts.dropAt {w : World} {B b off : Nat} {l : List TW} (h : Wts w B (some ⟨b, off, none⟩) l) (n : Nat) : Wts w B (some ⟨b, off + n * 6, none⟩) (l.drop n) := ⟨h.1.dropAt n, fun a ha => h.2 a (List.mem_of_mem_drop ha)⟩
/-- a queue is nil and empty, or lies at an address -/
theorem Wts.form {w : World} {B : Nat} {A : Option Addr} {l : List TW} (h : Wts w B A l) : l = [] ∨ ∃ b off, A = some ⟨b, off, none⟩ := by
  rcases Nat.eq_zero_or_pos l.length with h0 | h0
  · exact .inl (List.eq_nil_of_length_eq_zero h0)
  · obtain ⟨b, off, e, _⟩ := h.1 h0
    exact .inr ⟨b, off, e⟩
theorem Wts.empty {w : World} {B : Nat} {A : Option Addr} : Wts w B A [] := ⟨RowsAt.nil, fun _ h => by cases h⟩
/-- a queue whose cells lie in blocks from lo to hi -/
structure WtsIn (w : World) (lo hi : Nat) (A : Option Addr) (l : List TW) : Prop where
  rows : Wts w hi A l
  low : 0 < l.length → ∀ b off, A = some ⟨b, off, none⟩ → lo ≤ b
  plow : ∀ a ∈ l, 0 < a.w.m.pl.length → ∀ b off, a.B = some ⟨b, off, none⟩ → lo ≤ b
theorem WtsIn.keep {w w' : World} {lo hi : Nat} {A : Option Addr} {l : List TW} (h : WtsIn w lo hi A l) (hk : ∀ p : Addr, lo ≤ p.block → p.block < hi → w'.cell? p = w.cell? p) : WtsIn w' lo hi A l := by
  refine ⟨⟨fun h0 => ?_, fun a ha h0 => ?_⟩, h.low, h.plow⟩
  · obtain ⟨b, off, rfl, hb, hc⟩ := h.rows.1 h0
    have hlo := h.low h0 b off rfl
    exact ⟨b, off, rfl, hb, fun i a ha j v hv => (hk _ hlo hb).trans (hc i a ha j v hv)⟩
  · obtain ⟨b, off, e, hb, hc⟩ := h.rows.2 a ha h0
    have hlo := h.plow a ha h0 b off e
    exact ⟨b, off, e, hb, fun i hi => (hk _ hlo hb).trans (hc i hi)⟩
theorem WtsIn.less {w : World} {lo lo' hi : Nat} {A : Option Addr} {l : List TW} (h : WtsIn w lo hi A l) (hl : lo' ≤ lo) : WtsIn w lo' hi A l :=
  ⟨h.rows, fun h0 b off e => Nat.le_trans hl (h.low h0 b off e), fun a ha h0 b off e => Nat.le_trans hl (h.plow a ha h0 b off e)⟩
theorem WtsIn.setCell {w : World} {lo hi : Nat} {A : Option Addr} {l : List TW} (h : WtsIn w lo hi A l) {p : Addr} (hp : p.block < lo) (u : Value) : WtsIn (w.setCell p u) lo hi A l :=
  h.keep fun q hq _ => World.cell?_setCell_other w p q u (fun e => by subst e; omega)
theorem WtsIn.below {w w' : World} {lo hi : Nat} {A : Option Addr} {l : List TW} (h : WtsIn w lo hi A l) {B : Nat} (hb : Below B w w') (hB : hi ≤ B) : WtsIn w' lo hi A l := h.keep fun q _ hq => hb.cell (by omega)
theorem QOwn.wtsIn {w : World} {base n c : Nat} {A : Option Addr} {l : List TW} (h : QOwn w base A n c l) : WtsIn w base w.heap.size A l :=
  ⟨h.wts, fun h0 b off e => (h.own.block b (by rw [e]; rfl)).1, h.new⟩
theorem QOwn.setCell {w : World} {base n c : Nat} {A : Option Addr} {l : List TW} (h : QOwn w base A n c l) {p : Addr} (hp : p.block < base) (u : Value) : QOwn (w.setCell p u) base A n c l := by
  refine ⟨h.len, h.own.setCell (fun g hg e => ?_) u, fun a ha h0 => ?_, h.far, h.new⟩
  · have := (h.own.block g hg).1
    omega
  · obtain ⟨b, off, e, hb, hc⟩ := h.pay a ha h0
    have hlo := h.new a ha h0 b off e
    exact ⟨b, off, e, by simpa [World.setCell] using hb, fun i hi => (World.cell?_setCell_other w p _ u (fun e => by subst e; simp at hp; omega)).trans (hc i hi)⟩
theorem QOwn.push {w : World} {base n c : Nat} {A : Option Addr} {l : List TW} (h : QOwn w base A n c l) (o : Obj) : QOwn (w.alloc o) base A n c l := h.below ((Below.refl _ _).alloc (Nat.le_refl _) _)
theorem QOwn.setRow {base n c g : Nat} {A : Option Addr} {l : List TW} (hg : g < base) : ∀ (vs : List Value) (w : World) (i : Nat), QOwn w base A n c l → QOwn (Go.Proofs.Ytnaafjdnmbajjaa.setRow g w i vs) base A n c l
  | [], _, _, h => h
  | v :: vs, w, i, h => QOwn.setRow hg vs _ (i + 1) (QOwn.setCell h (by exact hg) v)
theorem WtsIn.setRow {lo hi g : Nat} {A : Option Addr} {l : List TW} (hg : g < lo) : ∀ (vs : List Value) (w : World) (i : Nat), WtsIn w lo hi A l → WtsIn (Go.Proofs.Ytnaafjdnmbajjaa.setRow g w i vs) lo hi A l
  | [], _, _, h => h
  | v :: vs, w, i, h => WtsIn.setRow hg vs _ (i + 1) (WtsIn.setCell h (by exact hg) v)
def QueueN (n : Nat) (q : List Jb.Wt) (w : World) (e : Ending) (w' : World) : Prop :=
  ∃ (A' : Option Addr) (c' : Nat) (l' : List TW), e = .returned (.slice A' n c') ∧ l'.map TW.w = q ∧ QOwn w' w.heap.size A' n c' l' ∧ Below w.heap.size w w'
theorem copyQueue_n (A : Option Addr) (l : List TW) (n c : Nat) (w : World) (B : Nat) (hB : B ≤ w.heap.size) (hn : l.length = n) (hl : n ≤ 100000) (hA : Wts w B A l) (hp : ∀ a ∈ l, a.w.m.pl.length ≤ 1000000) (q : List Jb.Wt) (hq : l.map TW.w = q) : Calls Try.prog 49 #[.slice A n c] w (QueueN n q w) := by
  refine (copyQueue_any A l n c w hn hl (hA.more hB) hp).mono ?_
  rintro e w' ⟨A', c', l', rfl, h1, h2, h3⟩
  rw [hn] at h2
  exact ⟨A', c', l', by rw [hn], h1.trans hq, h2, h3⟩
/-- what run leaves -/
def RunR (le mo : Int) (on : Bool) (ze fi hi dn sp tr : Int) (q : List Jb.Wt) (la tw pd now : Int) (w : World) (e : Ending) (w' : World) : Prop :=
  ∃ (A1 : Option Addr) (c1 : Nat) (l1 : List TW) (A2 : Option Addr) (c2 : Nat) (l2 : List TW) (B : Nat),
    e = .returned (.tuple #[.agg #[.int .i64 le, .int .i64 mo, .int .i64 now, .bool on, .int .i64 ze, .int .i64 fi, .int .i64 hi, .int .i64 (Jb.maxSq dn (Jb.due now q)), .int .i64 sp, .int .i64 tr, .slice A2 l2.length c2, .int .i64 la, .int .i64 tw, .int .i64 (pd + (Jb.due now q).length)], .slice A1 l1.length c1]) ∧
    l1.map TW.w = Jb.due now q ∧ l2.map TW.w = Jb.left now q ∧ WtsIn w' w.heap.size B A1 l1 ∧ QOwn w' B A2 l2.length c2 l2 ∧ w.heap.size ≤ B ∧ B ≤ w'.heap.size ∧ Below w.heap.size w w'
theorem due_take (now : Int) (q : List Jb.Wt) : Jb.due now q = q.take (Jb.due now q).length ∧ Jb.left now q = q.drop (Jb.due now q).length := by
  have h := Jb.due_left now q
  constructor
  · conv => rhs; arg 2; rw [← h]
    rw [List.take_left]
  · conv => rhs; arg 2; rw [← h]
    rw [List.drop_left]
theorem maxSq_snoc (d : Int) (l : List Jb.Wt) (x : Jb.Wt) : Jb.maxSq d (l ++ [x]) = max (Jb.maxSq d l) x.m.sq := by unfold Jb.maxSq; rw [List.foldl_append]; rfl
set_option maxRecDepth 100000 in
set_option maxHeartbeats 12800000 in
theorem run_some (le mo nw : Int) (on : Bool) (ze fi hi dn sp tr : Int) (A : Option Addr) (l : List TW) (n qc : Nat) (la tw pd now : Int) (w : World) (hn : l.length = n) (hl : n ≤ 200) (hcap : n ≤ qc) (hcm : qc ≤ maxLen) (hA : Wts w w.heap.size A l) (hp : ∀ a ∈ l, a.w.m.pl.length ≤ 1000000) (hpd : -9223372036854775808 ≤ pd ∧ pd ≤ 9223372036854775000)
    (d : Nat) (hd : d = (Jb.due now (l.map TW.w)).length) (hdl : d < n) : Calls Try.prog 29 #[.agg #[.int .i64 le, .int .i64 mo, .int .i64 nw, .bool on, .int .i64 ze, .int .i64 fi, .int .i64 hi, .int .i64 dn, .int .i64 sp, .int .i64 tr, .slice A n qc, .int .i64 la, .int .i64 tw, .int .i64 pd], .int .i64 now] w (RunR le mo on ze fi hi dn sp tr (l.map TW.w) la tw pd now w) := by
  subst hn
  unfold maxLen at hcm
  obtain ⟨b, off, rfl⟩ : ∃ b off, A = some ⟨b, off, none⟩ := by
    rcases hA.form with e | e
    · subst e; simp at hdl
    · exact e
  have h1 : (0 : Int) ≤ (d : Int) := by omega
  have h2 : (d : Int) ≤ (l.length : Int) := by omega
  have h3 : (d : Int) ≤ (qc : Int) := by omega
  have h4 : ¬qc = d := by omega
  have h5 : (l.length : Int) ≤ (qc : Int) := by omega
  have hR : firstLate now (l.map TW.w) = (d : Int) := by unfold firstLate; rw [← hd, if_neg (by simp; omega)]
  obtain ⟨W0, hW0⟩ : ∃ W0, W0 = ((w.alloc (.cells #[.int .i64 le, .int .i64 mo, .int .i64 nw, .bool on, .int .i64 ze, .int .i64 fi, .int .i64 hi, .int .i64 dn, .int .i64 sp, .int .i64 tr, .slice (some ⟨b, off, none⟩) l.length qc, .int .i64 la, .int .i64 tw, .int .i64 pd] 26)).alloc (.cells #[.int .i64 now] 3)).alloc (.cells #[.int .i64 0, .int .i64 0, .int .i64 0, .bool false, .int .i64 0, .int .i64 0, .int .i64 0, .int .i64 0, .int .i64 0, .int .i64 0, .slice none 0 0, .int .i64 0, .int .i64 0, .int .i64 0] 26) := ⟨_, rfl⟩
  have hU0 : Bel w W0 := by rw [hW0]; exact (((Bel.refl w).push _).push _).push _
  have hB0 : Blk W0 w.heap.size 26 #[.int .i64 le, .int .i64 mo, .int .i64 nw, .bool on, .int .i64 ze, .int .i64 fi, .int .i64 hi, .int .i64 dn, .int .i64 sp, .int .i64 tr, .slice (some ⟨b, off, none⟩) l.length qc, .int .i64 la, .int .i64 tw, .int .i64 pd] := by rw [hW0]; exact ((Blk.new w _ _).push _).push _
  have hB1 : Blk W0 (w.heap.size + 1) 3 #[.int .i64 now] := by rw [hW0]; exact (Blk.new1 w _ _ _).push _
  have hB2 : Blk W0 (w.heap.size + 1 + 1) 26 #[.int .i64 0, .int .i64 0, .int .i64 0, .bool false, .int .i64 0, .int .i64 0, .int .i64 0, .int .i64 0, .int .i64 0, .int .i64 0, .slice none 0 0, .int .i64 0, .int .i64 0, .int .i64 0] := by rw [hW0]; have := Blk.new ((w.alloc (.cells #[.int .i64 le, .int .i64 mo, .int .i64 nw, .bool on, .int .i64 ze, .int .i64 fi, .int .i64 hi, .int .i64 dn, .int .i64 sp, .int .i64 tr, .slice (some ⟨b, off, none⟩) l.length qc, .int .i64 la, .int .i64 tw, .int .i64 pd] 26)).alloc (.cells #[.int .i64 now] 3)) 26 #[.int .i64 0, .int .i64 0, .int .i64 0, .bool false, .int .i64 0, .int .i64 0, .int .i64 0, .int .i64 0, .int .i64 0, .int .i64 0, .slice none 0 0, .int .i64 0, .int .i64 0, .int .i64 0]; rw [size_alloc2] at this; exact this
  have hA0 : Wts W0 W0.heap.size (some ⟨b, off, none⟩) l := (hA.below hU0).more hU0.size
  have k1 := index_any (some ⟨b, off, none⟩) l l.length qc (w.heap.size + 1) now W0 rfl (by omega) hA0 (hB1.at 0 _ rfl) hB1.lt
  rw [hR] at k1
  rw [hW0] at k1
  have K1 := Lib.hid k1
  have HW0 := Lib.hid hW0
  have U0 := Lib.hid hU0
  have BS := Lib.hid hB0
  have BN := Lib.hid hB1
  have BR := Lib.hid hB2
  have HA := Lib.hid hA0
  have HP := Lib.hid hp
  have HD := Lib.hid hd
  clear k1 hW0 hU0 hB0 hB1 hB2 hA0 hp hA hd hR
  go_enter Try.func29, Try.ntmps29
  go_wp2_with fail
  refine K1.out.mono ?_
  rw [← HW0.out]
  rintro e w1 ⟨rfl, hb1⟩
  have U1 := Lib.hid (U0.out.later hb1)
  have BS1 := Lib.hid (BS.out.later hb1)
  have BN1 := Lib.hid (BN.out.later hb1)
  have BR1 := Lib.hid (BR.out.later hb1)
  have HA1 := Lib.hid (HA.out.later hb1)
  have g10 := BS1.out.at 10 _ rfl
  clear hb1 K1 HW0 U0 BS BN BR HA
  have HQ := Lib.hid (due_take now (l.map TW.w))
  rw [← HD.out] at HQ
  have HPT := Lib.hid (fun (a : TW) (ha : a ∈ l.take d) => HP.out a (List.mem_of_mem_take ha))
  have HPD := Lib.hid (fun (a : TW) (ha : a ∈ l.drop d) => HP.out a (List.mem_of_mem_drop ha))
  have k2 := Lib.hid (copyQueue_n (some ⟨b, off, none⟩) (l.take d) d d w1 w1.heap.size (Nat.le_refl _) (by simp; omega) (by omega) (HA1.out.take d) HPT.out (Jb.due now (l.map TW.w)) (by rw [HQ.out.1, List.map_take]))
  go_wp2_with fail
  refine k2.out.mono ?_
  rintro e w2 ⟨A1, c1, l1, rfl, hm1, hq1, hb2⟩
  have HM1 := Lib.hid hm1
  have Q1 := Lib.hid hq1.wtsIn
  have HL1 := Lib.hid hq1.len
  have U2 := Lib.hid (U1.out.later hb2)
  have BS2 := Lib.hid (BS1.out.later hb2)
  have BN2 := Lib.hid (BN1.out.later hb2)
  have BR2 := Lib.hid (BR1.out.later hb2)
  have HA2 := Lib.hid (HA1.out.later hb2)
  have hs1 := BR1.out.lt
  have hs2 := hb2.size
  have k3 := Lib.hid (copyQueue_n (some ⟨b, off + d * 6, none⟩) (l.drop d) (l.length - d) (qc - d) w2 w2.heap.size (Nat.le_refl _) (by simp) (by omega) (HA2.out.dropAt d) HPD.out (Jb.left now (l.map TW.w)) (by rw [HQ.out.2, List.map_drop]))
  clear hb2 hm1 hq1 U1 BS1 BN1 BR1 HA1 k2
  clear g10
  have g10 := BS2.out.at 10 _ rfl
  go_wp2_with fail
  refine k3.out.mono ?_
  rintro e w3 ⟨A2, c2, l2, rfl, hm2, hq2, hb3⟩
  have HM2 := Lib.hid hm2
  have Q2 := Lib.hid hq2
  have Q1' := Lib.hid (Q1.out.below hb3 (Nat.le_refl _))
  have U3 := Lib.hid (U2.out.later hb3)
  have BS3 := Lib.hid (BS2.out.later hb3)
  have BN3 := Lib.hid (BN2.out.later hb3)
  have BR3 := Lib.hid (BR2.out.later hb3)
  have hs3 := hb3.size
  clear hb3 hm2 hq2 U2 BS2 BN2 BR2 HA2 k3 Q1 g10
  have f13 := BS3.out.at 13 _ rfl
  have f10 := BS3.out.at 10 _ rfl
  have fz := BS3.out.frozen
  go_wp2_with fail
  go_loopg [38] d (fun gk i wr => ∃ k : Nat, gk + k = d ∧ i = .int .i64 k ∧ Hid (Blk wr w.heap.size 26 #[.int .i64 le, .int .i64 mo, .int .i64 nw, .bool on, .int .i64 ze, .int .i64 fi, .int .i64 hi, .int .i64 (Jb.maxSq dn ((Jb.due now (l.map TW.w)).take k)), .int .i64 sp, .int .i64 tr, .slice A2 (l.length - d) c2, .int .i64 la, .int .i64 tw, .int .i64 (pd + d)]) ∧ Hid (Blk wr (w.heap.size + 1) 3 #[.int .i64 now]) ∧ Hid (Blk wr (w.heap.size + 1 + 1) 26 #[.int .i64 0, .int .i64 0, .int .i64 0, .bool false, .int .i64 0, .int .i64 0, .int .i64 0, .int .i64 0, .int .i64 0, .int .i64 0, .slice none 0 0, .int .i64 0, .int .i64 0, .int .i64 0]) ∧ Hid (WtsIn wr w1.heap.size w2.heap.size A1 l1) ∧ Hid (QOwn wr w2.heap.size A2 (l.length - d) c2 l2) ∧ Hid (Bel w wr) ∧ Hid (w2.heap.size ≤ wr.heap.size))
  case atStart =>
    refine ⟨0, rfl, rfl, Lib.hid ?_, Lib.hid ?_, Lib.hid ?_, Lib.hid ?_, Lib.hid ?_, Lib.hid ?_, Lib.hid ?_⟩
    · exact (BS3.out.set_ 10 (.slice A2 (l.length - d) c2)).set_ 13 (.int .i64 (pd + d))
    · exact (BN3.out.far (by simp) _).far (by simp) _
    · exact (BR3.out.far (by simp; omega) _).far (by simp; omega) _
    · exact (Q1'.out.setCell (by simp; omega) _).setCell (by simp; omega) _
    · exact (Q2.out.setCell (by simp; omega) _).setCell (by simp; omega) _
    · exact below_set_old (below_set_old U3.out (Nat.le_refl _) _) (Nat.le_refl _) _
    · simpa [World.setCell] using hs3
  case round =>
    obtain ⟨k, hgk, rfl, BSr, BNr, BRr, W1r, Q2r, Ur, HSr⟩ := hrel
    have hi0 : (0 : Int) ≤ (k : Int) := by omega
    have hz0 := BSr.out.lt
    have fzr := BSr.out.frozen
    by_cases hk : k < d
    rotate_left
    · obtain rfl : k = d := by omega
      have hi1 : (k : Int) ≤ (k : Int) := Int.le_refl _
      have p0 := BSr.out.at 0 _ rfl
      have p1 := BSr.out.at 1 _ rfl
      have p2 := BSr.out.at 2 _ rfl
      have p3 := BSr.out.at 3 _ rfl
      have p4 := BSr.out.at 4 _ rfl
      have p5 := BSr.out.at 5 _ rfl
      have p6 := BSr.out.at 6 _ rfl
      have p7 := BSr.out.at 7 _ rfl
      have p8 := BSr.out.at 8 _ rfl
      have p9 := BSr.out.at 9 _ rfl
      have p10 := BSr.out.at 10 _ rfl
      have p11 := BSr.out.at 11 _ rfl
      have p12 := BSr.out.at 12 _ rfl
      have p13 := BSr.out.at 13 _ rfl
      have r0 := BRr.out.at 0 _ rfl
      have r1 := BRr.out.at 1 _ rfl
      have r2 := BRr.out.at 2 _ rfl
      have r3 := BRr.out.at 3 _ rfl
      have r4 := BRr.out.at 4 _ rfl
      have r5 := BRr.out.at 5 _ rfl
      have r6 := BRr.out.at 6 _ rfl
      have r7 := BRr.out.at 7 _ rfl
      have r8 := BRr.out.at 8 _ rfl
      have r9 := BRr.out.at 9 _ rfl
      have r10 := BRr.out.at 10 _ rfl
      have r11 := BRr.out.at 11 _ rfl
      have r12 := BRr.out.at 12 _ rfl
      have r13 := BRr.out.at 13 _ rfl
      have n0 := BNr.out.at 0 _ rfl
      have rfz := BRr.out.frozen
      go_wp2_with fail
      have htk : (Jb.due now (l.map TW.w)).take k = Jb.due now (l.map TW.w) := List.take_of_length_le (Nat.le_of_eq HD.out.symm)
      rw [htk]
      have BF := Blk.setRow (BRr.out.far (p := ⟨w.heap.size, 2, none⟩) (by simp; omega) (.int .i64 now)) [.int .i64 le, .int .i64 mo, .int .i64 now, .bool on, .int .i64 ze, .int .i64 fi, .int .i64 hi, .int .i64 (Jb.maxSq dn (Jb.due now (l.map TW.w))), .int .i64 sp, .int .i64 tr, .slice A2 (l.length - k) c2, .int .i64 la, .int .i64 tw, .int .i64 (pd + k)] rfl
      have QF := QOwn.setRow (g := w.heap.size + 1 + 1) (by omega) [.int .i64 le, .int .i64 mo, .int .i64 now, .bool on, .int .i64 ze, .int .i64 fi, .int .i64 hi, .int .i64 (Jb.maxSq dn (Jb.due now (l.map TW.w))), .int .i64 sp, .int .i64 tr, .slice A2 (l.length - k) c2, .int .i64 la, .int .i64 tw, .int .i64 (pd + k)] _ 0 (Q2r.out.setCell (p := ⟨w.heap.size, 2, none⟩) (by simp; omega) (.int .i64 now))
      have WF := WtsIn.setRow (g := w.heap.size + 1 + 1) (by omega) [.int .i64 le, .int .i64 mo, .int .i64 now, .bool on, .int .i64 ze, .int .i64 fi, .int .i64 hi, .int .i64 (Jb.maxSq dn (Jb.due now (l.map TW.w))), .int .i64 sp, .int .i64 tr, .slice A2 (l.length - k) c2, .int .i64 la, .int .i64 tw, .int .i64 (pd + k)] _ 0 (W1r.out.setCell (p := ⟨w.heap.size, 2, none⟩) (by simp; omega) (.int .i64 now))
      have UF := below_setRow (g := w.heap.size + 1 + 1) (by omega) [.int .i64 le, .int .i64 mo, .int .i64 now, .bool on, .int .i64 ze, .int .i64 fi, .int .i64 hi, .int .i64 (Jb.maxSq dn (Jb.due now (l.map TW.w))), .int .i64 sp, .int .i64 tr, .slice A2 (l.length - k) c2, .int .i64 la, .int .i64 tw, .int .i64 (pd + k)] _ 0 (below_set_old (p := ⟨w.heap.size, 2, none⟩) Ur.out (Nat.le_refl _) (.int .i64 now))
      have SF := setRow_size (w.heap.size + 1 + 1) [.int .i64 le, .int .i64 mo, .int .i64 now, .bool on, .int .i64 ze, .int .i64 fi, .int .i64 hi, .int .i64 (Jb.maxSq dn (Jb.due now (l.map TW.w))), .int .i64 sp, .int .i64 tr, .slice A2 (l.length - k) c2, .int .i64 la, .int .i64 tw, .int .i64 (pd + k)] (wr.setCell ⟨w.heap.size, 2, none⟩ (.int .i64 now)) 0
      obtain ⟨W, hW⟩ : ∃ W, W = setRow (w.heap.size + 1 + 1) (wr.setCell ⟨w.heap.size, 2, none⟩ (.int .i64 now)) 0 [.int .i64 le, .int .i64 mo, .int .i64 now, .bool on, .int .i64 ze, .int .i64 fi, .int .i64 hi, .int .i64 (Jb.maxSq dn (Jb.due now (l.map TW.w))), .int .i64 sp, .int .i64 tr, .slice A2 (l.length - k) c2, .int .i64 la, .int .i64 tw, .int .i64 (pd + k)] := ⟨_, rfl⟩
      rw [← hW] at BF QF WF UF SF
      simp only [setRow, Nat.zero_add, Nat.reduceAdd] at hW
      rw [← hW]
      have hl2 : l2.length = l.length - k := Q2r.out.len
      have hl1 : l1.length = k := HL1.out
      rw [← hl2] at BF QF
      exact bodyPost_ret (v := .tuple #[.agg (List.toArray [.int .i64 le, .int .i64 mo, .int .i64 now, .bool on, .int .i64 ze, .int .i64 fi, .int .i64 hi, .int .i64 (Jb.maxSq dn (Jb.due now (l.map TW.w))), .int .i64 sp, .int .i64 tr, .slice A2 l2.length c2, .int .i64 la, .int .i64 tw, .int .i64 (pd + k)]), .slice A1 k c1]) (res_ct Try.results29 rfl (run_loadVar_row (P := Try.prog) _ _ _ _ _ _ _ BF Try.underlying26 rfl (by kernel_rfl)) rfl) rfl ⟨A1, c1, l1, A2, c2, l2, w2.heap.size, by rw [hl1, ← HD.out], HM1.out, HM2.out, WF.less (by omega), QF, by omega, by have := HSr.out; rw [SF]; simpa [World.setCell] using this, UF⟩
    have hi1 : (k : Int) < (d : Int) := by omega
    have hl1 : l1.length = d := HL1.out
    obtain ⟨a, ha⟩ : ∃ a, l1[k]? = some a := ⟨_, List.getElem?_eq_getElem (by omega)⟩
    obtain ⟨b9, off9, rfl, hbB, e0, e1, e2, e3, e4, e5⟩ := rowsW W1r.out.rows.1 ha
    have hm : (Jb.due now (l.map TW.w))[k]? = some a.w := by rw [← HM1.out, List.getElem?_map, ha]; rfl
    have HM := Lib.hid hm
    obtain ⟨⟨at0, ⟨sq0, ti0, mk0, ty0, pl0⟩⟩, B0, c0⟩ := a
    simp only at e0 e1 e2 e3 e4 e5 HM
    have hbw : b9 < wr.heap.size := Nat.lt_of_lt_of_le hbB HSr.out
    have p7 := BSr.out.at 7 _ rfl
    clear ha hm hl1
    go_wp2_with fail
    go_roundg (gk - 1)
    case measure => omega
    case rel =>
      refine ⟨k + 1, by omega, by go_num, Lib.hid ?_, Lib.hid ?_, Lib.hid ?_, Lib.hid ?_, Lib.hid ?_, Lib.hid ?_, Lib.hid ?_⟩
      · rw [List.take_add_one, HM.out]
        simp only [Option.toList_some]
        rw [maxSq_snoc]
        exact (BSr.out.set_ 7 _).push _
      · exact (BNr.out.far (by simp) _).push _
      · exact (BRr.out.far (by simp; omega) _).push _
      · exact (W1r.out.setCell (by simp; omega) _).below ((Below.refl _ _).alloc (Nat.le_refl _) _) (by have := HSr.out; simpa [World.setCell] using this)
      · exact (Q2r.out.setCell (by simp; omega) _).push _
      · exact Bel.push (below_set_old Ur.out (Nat.le_refl _) _) _
      · have := HSr.out; simp [World.setCell]; omega
end Go.Proofs.Ytnaafjdnmbajjaa
/- Layer 30: run, where all packets are played. -/
namespace Go.Proofs.Ytnaafjdnmbajjaa
open Go.RowKit
set_option linter.unusedVariables false
set_option linter.unusedSimpArgs false
attribute [local go_sem ↓] run_min_plain run_max_plain
attribute [local go_sem] setCell_drewN alloc_drewN
set_option maxRecDepth 100000 in
set_option maxHeartbeats 12800000 in
theorem run_full (le mo nw : Int) (on : Bool) (ze fi hi dn sp tr : Int) (A : Option Addr) (l : List TW) (n qc : Nat) (la tw pd now : Int) (w : World) (hn : l.length = n) (hl : n ≤ 200) (hcap : n ≤ qc) (hcm : qc ≤ maxLen) (hA : Wts w w.heap.size A l) (hp : ∀ a ∈ l, a.w.m.pl.length ≤ 1000000) (hpd : -9223372036854775808 ≤ pd ∧ pd ≤ 9223372036854775000)
    (hd : n = (Jb.due now (l.map TW.w)).length) (b off : Nat) (hAe : A = some ⟨b, off, none⟩) : Calls Try.prog 29 #[.agg #[.int .i64 le, .int .i64 mo, .int .i64 nw, .bool on, .int .i64 ze, .int .i64 fi, .int .i64 hi, .int .i64 dn, .int .i64 sp, .int .i64 tr, .slice A n qc, .int .i64 la, .int .i64 tw, .int .i64 pd], .int .i64 now] w (RunR le mo on ze fi hi dn sp tr (l.map TW.w) la tw pd now w) := by
  subst hn
  unfold maxLen at hcm
  subst hAe
  have h5 : (l.length : Int) ≤ (qc : Int) := by omega
  have hR : firstLate now (l.map TW.w) = -1 := by unfold firstLate; rw [← hd, if_pos (by simp)]
  obtain ⟨W0, hW0⟩ : ∃ W0, W0 = ((w.alloc (.cells #[.int .i64 le, .int .i64 mo, .int .i64 nw, .bool on, .int .i64 ze, .int .i64 fi, .int .i64 hi, .int .i64 dn, .int .i64 sp, .int .i64 tr, .slice (some ⟨b, off, none⟩) l.length qc, .int .i64 la, .int .i64 tw, .int .i64 pd] 26)).alloc (.cells #[.int .i64 now] 3)).alloc (.cells #[.int .i64 0, .int .i64 0, .int .i64 0, .bool false, .int .i64 0, .int .i64 0, .int .i64 0, .int .i64 0, .int .i64 0, .int .i64 0, .slice none 0 0, .int .i64 0, .int .i64 0, .int .i64 0] 26) := ⟨_, rfl⟩
  have hU0 : Bel w W0 := by rw [hW0]; exact (((Bel.refl w).push _).push _).push _
  have hB0 : Blk W0 w.heap.size 26 #[.int .i64 le, .int .i64 mo, .int .i64 nw, .bool on, .int .i64 ze, .int .i64 fi, .int .i64 hi, .int .i64 dn, .int .i64 sp, .int .i64 tr, .slice (some ⟨b, off, none⟩) l.length qc, .int .i64 la, .int .i64 tw, .int .i64 pd] := by rw [hW0]; exact ((Blk.new w _ _).push _).push _
  have hB1 : Blk W0 (w.heap.size + 1) 3 #[.int .i64 now] := by rw [hW0]; exact (Blk.new1 w _ _ _).push _
  have hB2 : Blk W0 (w.heap.size + 1 + 1) 26 #[.int .i64 0, .int .i64 0, .int .i64 0, .bool false, .int .i64 0, .int .i64 0, .int .i64 0, .int .i64 0, .int .i64 0, .int .i64 0, .slice none 0 0, .int .i64 0, .int .i64 0, .int .i64 0] := by rw [hW0]; have := Blk.new ((w.alloc (.cells #[.int .i64 le, .int .i64 mo, .int .i64 nw, .bool on, .int .i64 ze, .int .i64 fi, .int .i64 hi, .int .i64 dn, .int .i64 sp, .int .i64 tr, .slice (some ⟨b, off, none⟩) l.length qc, .int .i64 la, .int .i64 tw, .int .i64 pd] 26)).alloc (.cells #[.int .i64 now] 3)) 26 #[.int .i64 0, .int .i64 0, .int .i64 0, .bool false, .int .i64 0, .int .i64 0, .int .i64 0, .int .i64 0, .int .i64 0, .int .i64 0, .slice none 0 0, .int .i64 0, .int .i64 0, .int .i64 0]; rw [size_alloc2] at this; exact this
  have hA0 : Wts W0 W0.heap.size (some ⟨b, off, none⟩) l := (hA.below hU0).more hU0.size
  have k1 := index_any (some ⟨b, off, none⟩) l l.length qc (w.heap.size + 1) now W0 rfl (by omega) hA0 (hB1.at 0 _ rfl) hB1.lt
  rw [hR] at k1
  rw [hW0] at k1
  have K1 := Lib.hid k1
  have HW0 := Lib.hid hW0
  have U0 := Lib.hid hU0
  have BS := Lib.hid hB0
  have BN := Lib.hid hB1
  have BR := Lib.hid hB2
  have HA := Lib.hid hA0
  have HP := Lib.hid hp
  have HD := Lib.hid hd
  clear k1 hW0 hU0 hB0 hB1 hB2 hA0 hp hA hd hR
  by_cases hq : qc = l.length
  · subst hq
    go_enter Try.func29, Try.ntmps29
    go_wp2_with fail
    refine K1.out.mono ?_
    rw [← HW0.out]
    rintro e w1 ⟨rfl, hb1⟩
    have U1 := Lib.hid (U0.out.later hb1)
    have BS1 := Lib.hid (BS.out.later hb1)
    have BN1 := Lib.hid (BN.out.later hb1)
    have BR1 := Lib.hid (BR.out.later hb1)
    have HA1 := Lib.hid (HA.out.later hb1)
    have g10 := BS1.out.at 10 _ rfl
    clear hb1 K1 HW0 U0 BS BN BR HA
    have HQ := Lib.hid (due_take now (l.map TW.w))
    rw [← HD.out] at HQ
    have HPT := Lib.hid (fun (a : TW) (ha : a ∈ l.take l.length) => HP.out a (List.mem_of_mem_take ha))
    have HPD := Lib.hid (fun (a : TW) (ha : a ∈ l.drop l.length) => HP.out a (List.mem_of_mem_drop ha))
    have k2 := Lib.hid (copyQueue_n (some ⟨b, off, none⟩) (l.take l.length) l.length l.length w1 w1.heap.size (Nat.le_refl _) (by simp) (by omega) (HA1.out.take l.length) HPT.out (Jb.due now (l.map TW.w)) (by rw [HQ.out.1, List.map_take]))
    go_wp2_with fail
    refine k2.out.mono ?_
    rintro e w2 ⟨A1, c1, l1, rfl, hm1, hq1, hb2⟩
    have HM1 := Lib.hid hm1
    have Q1 := Lib.hid hq1.wtsIn
    have HL1 := Lib.hid hq1.len
    have U2 := Lib.hid (U1.out.later hb2)
    have BS2 := Lib.hid (BS1.out.later hb2)
    have BN2 := Lib.hid (BN1.out.later hb2)
    have BR2 := Lib.hid (BR1.out.later hb2)
    have HA2 := Lib.hid (HA1.out.later hb2)
    have hs1 := BR1.out.lt
    have hs2 := hb2.size
    have k3 := Lib.hid fun (A9 : Option Addr) (c9 : Nat) => (copyQueue_n A9 [] 0 c9 w2 w2.heap.size (Nat.le_refl _) rfl (by omega) Wts.empty (fun _ h => by cases h) (Jb.left now (l.map TW.w)) (by rw [HQ.out.2, List.drop_of_length_le (by simp)]; rfl))
    clear hb2 hm1 hq1 U1 BS1 BN1 BR1 HA1 k2
    clear g10
    have g10 := BS2.out.at 10 _ rfl
    go_wp2_with fail
    refine (k3.out _ _).mono ?_
    rintro e w3 ⟨A2, c2, l2, rfl, hm2, hq2, hb3⟩
    have HM2 := Lib.hid hm2
    have Q2 := Lib.hid hq2
    have Q1' := Lib.hid (Q1.out.below hb3 (Nat.le_refl _))
    have U3 := Lib.hid (U2.out.later hb3)
    have BS3 := Lib.hid (BS2.out.later hb3)
    have BN3 := Lib.hid (BN2.out.later hb3)
    have BR3 := Lib.hid (BR2.out.later hb3)
    have hs3 := hb3.size
    clear hb3 hm2 hq2 U2 BS2 BN2 BR2 HA2 k3 Q1 g10
    have f13 := BS3.out.at 13 _ rfl
    have f10 := BS3.out.at 10 _ rfl
    have fz := BS3.out.frozen
    go_wp2_with fail
    go_loopg [38] l.length (fun gk i wr => ∃ k : Nat, gk + k = l.length ∧ i = .int .i64 k ∧ Hid (Blk wr w.heap.size 26 #[.int .i64 le, .int .i64 mo, .int .i64 nw, .bool on, .int .i64 ze, .int .i64 fi, .int .i64 hi, .int .i64 (Jb.maxSq dn ((Jb.due now (l.map TW.w)).take k)), .int .i64 sp, .int .i64 tr, .slice A2 0 c2, .int .i64 la, .int .i64 tw, .int .i64 (pd + l.length)]) ∧ Hid (Blk wr (w.heap.size + 1) 3 #[.int .i64 now]) ∧ Hid (Blk wr (w.heap.size + 1 + 1) 26 #[.int .i64 0, .int .i64 0, .int .i64 0, .bool false, .int .i64 0, .int .i64 0, .int .i64 0, .int .i64 0, .int .i64 0, .int .i64 0, .slice none 0 0, .int .i64 0, .int .i64 0, .int .i64 0]) ∧ Hid (WtsIn wr w1.heap.size w2.heap.size A1 l1) ∧ Hid (QOwn wr w2.heap.size A2 0 c2 l2) ∧ Hid (Bel w wr) ∧ Hid (w2.heap.size ≤ wr.heap.size))
    case atStart =>
      refine ⟨0, rfl, rfl, Lib.hid ?_, Lib.hid ?_, Lib.hid ?_, Lib.hid ?_, Lib.hid ?_, Lib.hid ?_, Lib.hid ?_⟩
      · exact (BS3.out.set_ 10 (.slice A2 0 c2)).set_ 13 (.int .i64 (pd + l.length))
      · exact (BN3.out.far (by simp) _).far (by simp) _
      · exact (BR3.out.far (by simp; omega) _).far (by simp; omega) _
      · exact (Q1'.out.setCell (by simp; omega) _).setCell (by simp; omega) _
      · exact (Q2.out.setCell (by simp; omega) _).setCell (by simp; omega) _
      · exact below_set_old (below_set_old U3.out (Nat.le_refl _) _) (Nat.le_refl _) _
      · simpa [World.setCell] using hs3
    case round =>
      obtain ⟨k, hgk, rfl, BSr, BNr, BRr, W1r, Q2r, Ur, HSr⟩ := hrel
      have hi0 : (0 : Int) ≤ (k : Int) := by omega
      have hz0 := BSr.out.lt
      have fzr := BSr.out.frozen
      by_cases hk : k < l.length
      rotate_left
      · obtain rfl : k = l.length := by omega
        have hi1 : (l.length : Int) ≤ (l.length : Int) := Int.le_refl _
        have p0 := BSr.out.at 0 _ rfl
        have p1 := BSr.out.at 1 _ rfl
        have p2 := BSr.out.at 2 _ rfl
        have p3 := BSr.out.at 3 _ rfl
        have p4 := BSr.out.at 4 _ rfl
        have p5 := BSr.out.at 5 _ rfl
        have p6 := BSr.out.at 6 _ rfl
        have p7 := BSr.out.at 7 _ rfl
        have p8 := BSr.out.at 8 _ rfl
        have p9 := BSr.out.at 9 _ rfl
        have p10 := BSr.out.at 10 _ rfl
        have p11 := BSr.out.at 11 _ rfl
        have p12 := BSr.out.at 12 _ rfl
        have p13 := BSr.out.at 13 _ rfl
        have r0 := BRr.out.at 0 _ rfl
        have r1 := BRr.out.at 1 _ rfl
        have r2 := BRr.out.at 2 _ rfl
        have r3 := BRr.out.at 3 _ rfl
        have r4 := BRr.out.at 4 _ rfl
        have r5 := BRr.out.at 5 _ rfl
        have r6 := BRr.out.at 6 _ rfl
        have r7 := BRr.out.at 7 _ rfl
        have r8 := BRr.out.at 8 _ rfl
        have r9 := BRr.out.at 9 _ rfl
        have r10 := BRr.out.at 10 _ rfl
        have r11 := BRr.out.at 11 _ rfl
        have r12 := BRr.out.at 12 _ rfl
        have r13 := BRr.out.at 13 _ rfl
        have n0 := BNr.out.at 0 _ rfl
        have rfz := BRr.out.frozen
        go_wp2_with fail
        have htk : (Jb.due now (l.map TW.w)).take l.length = Jb.due now (l.map TW.w) := List.take_of_length_le (Nat.le_of_eq HD.out.symm)
        rw [htk]
        have BF := Blk.setRow (BRr.out.far (p := ⟨w.heap.size, 2, none⟩) (by simp; omega) (.int .i64 now)) [.int .i64 le, .int .i64 mo, .int .i64 now, .bool on, .int .i64 ze, .int .i64 fi, .int .i64 hi, .int .i64 (Jb.maxSq dn (Jb.due now (l.map TW.w))), .int .i64 sp, .int .i64 tr, .slice A2 0 c2, .int .i64 la, .int .i64 tw, .int .i64 (pd + l.length)] rfl
        have QF := QOwn.setRow (g := w.heap.size + 1 + 1) (by omega) [.int .i64 le, .int .i64 mo, .int .i64 now, .bool on, .int .i64 ze, .int .i64 fi, .int .i64 hi, .int .i64 (Jb.maxSq dn (Jb.due now (l.map TW.w))), .int .i64 sp, .int .i64 tr, .slice A2 0 c2, .int .i64 la, .int .i64 tw, .int .i64 (pd + l.length)] _ 0 (Q2r.out.setCell (p := ⟨w.heap.size, 2, none⟩) (by simp; omega) (.int .i64 now))
        have WF := WtsIn.setRow (g := w.heap.size + 1 + 1) (by omega) [.int .i64 le, .int .i64 mo, .int .i64 now, .bool on, .int .i64 ze, .int .i64 fi, .int .i64 hi, .int .i64 (Jb.maxSq dn (Jb.due now (l.map TW.w))), .int .i64 sp, .int .i64 tr, .slice A2 0 c2, .int .i64 la, .int .i64 tw, .int .i64 (pd + l.length)] _ 0 (W1r.out.setCell (p := ⟨w.heap.size, 2, none⟩) (by simp; omega) (.int .i64 now))
        have UF := below_setRow (g := w.heap.size + 1 + 1) (by omega) [.int .i64 le, .int .i64 mo, .int .i64 now, .bool on, .int .i64 ze, .int .i64 fi, .int .i64 hi, .int .i64 (Jb.maxSq dn (Jb.due now (l.map TW.w))), .int .i64 sp, .int .i64 tr, .slice A2 0 c2, .int .i64 la, .int .i64 tw, .int .i64 (pd + l.length)] _ 0 (below_set_old (p := ⟨w.heap.size, 2, none⟩) Ur.out (Nat.le_refl _) (.int .i64 now))
        have SF := setRow_size (w.heap.size + 1 + 1) [.int .i64 le, .int .i64 mo, .int .i64 now, .bool on, .int .i64 ze, .int .i64 fi, .int .i64 hi, .int .i64 (Jb.maxSq dn (Jb.due now (l.map TW.w))), .int .i64 sp, .int .i64 tr, .slice A2 0 c2, .int .i64 la, .int .i64 tw, .int .i64 (pd + l.length)] (wr.setCell ⟨w.heap.size, 2, none⟩ (.int .i64 now)) 0
        obtain ⟨W, hW⟩ : ∃ W, W = setRow (w.heap.size + 1 + 1) (wr.setCell ⟨w.heap.size, 2, none⟩ (.int .i64 now)) 0 [.int .i64 le, .int .i64 mo, .int .i64 now, .bool on, .int .i64 ze, .int .i64 fi, .int .i64 hi, .int .i64 (Jb.maxSq dn (Jb.due now (l.map TW.w))), .int .i64 sp, .int .i64 tr, .slice A2 0 c2, .int .i64 la, .int .i64 tw, .int .i64 (pd + l.length)] := ⟨_, rfl⟩
        rw [← hW] at BF QF WF UF SF
        simp only [setRow, Nat.zero_add, Nat.reduceAdd] at hW
        rw [← hW]
        have hl2 : l2.length = 0 := Q2r.out.len
        have hl1 : l1.length = l.length := HL1.out
        rw [← hl2] at BF QF
        exact bodyPost_ret (v := .tuple #[.agg (List.toArray [.int .i64 le, .int .i64 mo, .int .i64 now, .bool on, .int .i64 ze, .int .i64 fi, .int .i64 hi, .int .i64 (Jb.maxSq dn (Jb.due now (l.map TW.w))), .int .i64 sp, .int .i64 tr, .slice A2 l2.length c2, .int .i64 la, .int .i64 tw, .int .i64 (pd + l.length)]), .slice A1 l.length c1]) (res_ct Try.results29 rfl (run_loadVar_row (P := Try.prog) _ _ _ _ _ _ _ BF Try.underlying26 rfl (by kernel_rfl)) rfl) rfl ⟨A1, c1, l1, A2, c2, l2, w2.heap.size, by rw [hl1, ← HD.out], HM1.out, HM2.out, WF.less (by omega), QF, by omega, by have := HSr.out; rw [SF]; simpa [World.setCell] using this, UF⟩
      have hi1 : (k : Int) < (l.length : Int) := by omega
      have hl1 : l1.length = l.length := HL1.out
      obtain ⟨a, ha⟩ : ∃ a, l1[k]? = some a := ⟨_, List.getElem?_eq_getElem (by omega)⟩
      obtain ⟨b9, off9, rfl, hbB, e0, e1, e2, e3, e4, e5⟩ := rowsW W1r.out.rows.1 ha
      have hm : (Jb.due now (l.map TW.w))[k]? = some a.w := by rw [← HM1.out, List.getElem?_map, ha]; rfl
      have HM := Lib.hid hm
      obtain ⟨⟨at0, ⟨sq0, ti0, mk0, ty0, pl0⟩⟩, B0, c0⟩ := a
      simp only at e0 e1 e2 e3 e4 e5 HM
      have hbw : b9 < wr.heap.size := Nat.lt_of_lt_of_le hbB HSr.out
      have p7 := BSr.out.at 7 _ rfl
      clear ha hm hl1
      go_wp2_with fail
      go_roundg (gk - 1)
      case measure => omega
      case rel =>
        refine ⟨k + 1, by omega, by go_num, Lib.hid ?_, Lib.hid ?_, Lib.hid ?_, Lib.hid ?_, Lib.hid ?_, Lib.hid ?_, Lib.hid ?_⟩
        · rw [List.take_add_one, HM.out]
          simp only [Option.toList_some]
          rw [maxSq_snoc]
          exact (BSr.out.set_ 7 _).push _
        · exact (BNr.out.far (by simp) _).push _
        · exact (BRr.out.far (by simp; omega) _).push _
        · exact (W1r.out.setCell (by simp; omega) _).below ((Below.refl _ _).alloc (Nat.le_refl _) _) (by have := HSr.out; simpa [World.setCell] using this)
        · exact (Q2r.out.setCell (by simp; omega) _).push _
        · exact Bel.push (below_set_old Ur.out (Nat.le_refl _) _) _
        · have := HSr.out; simp [World.setCell]; omega
  go_enter Try.func29, Try.ntmps29
  go_wp2_with fail
  refine K1.out.mono ?_
  rw [← HW0.out]
  rintro e w1 ⟨rfl, hb1⟩
  have U1 := Lib.hid (U0.out.later hb1)
  have BS1 := Lib.hid (BS.out.later hb1)
  have BN1 := Lib.hid (BN.out.later hb1)
  have BR1 := Lib.hid (BR.out.later hb1)
  have HA1 := Lib.hid (HA.out.later hb1)
  have g10 := BS1.out.at 10 _ rfl
  clear hb1 K1 HW0 U0 BS BN BR HA
  have HQ := Lib.hid (due_take now (l.map TW.w))
  rw [← HD.out] at HQ
  have HPT := Lib.hid (fun (a : TW) (ha : a ∈ l.take l.length) => HP.out a (List.mem_of_mem_take ha))
  have HPD := Lib.hid (fun (a : TW) (ha : a ∈ l.drop l.length) => HP.out a (List.mem_of_mem_drop ha))
  have k2 := Lib.hid (copyQueue_n (some ⟨b, off, none⟩) (l.take l.length) l.length l.length w1 w1.heap.size (Nat.le_refl _) (by simp) (by omega) (HA1.out.take l.length) HPT.out (Jb.due now (l.map TW.w)) (by rw [HQ.out.1, List.map_take]))
  go_wp2_with fail
  refine k2.out.mono ?_
  rintro e w2 ⟨A1, c1, l1, rfl, hm1, hq1, hb2⟩
  have HM1 := Lib.hid hm1
  have Q1 := Lib.hid hq1.wtsIn
  have HL1 := Lib.hid hq1.len
  have U2 := Lib.hid (U1.out.later hb2)
  have BS2 := Lib.hid (BS1.out.later hb2)
  have BN2 := Lib.hid (BN1.out.later hb2)
  have BR2 := Lib.hid (BR1.out.later hb2)
  have HA2 := Lib.hid (HA1.out.later hb2)
  have hs1 := BR1.out.lt
  have hs2 := hb2.size
  have k3 := Lib.hid fun (A9 : Option Addr) (c9 : Nat) => (copyQueue_n A9 [] 0 c9 w2 w2.heap.size (Nat.le_refl _) rfl (by omega) Wts.empty (fun _ h => by cases h) (Jb.left now (l.map TW.w)) (by rw [HQ.out.2, List.drop_of_length_le (by simp)]; rfl))
  clear hb2 hm1 hq1 U1 BS1 BN1 BR1 HA1 k2
  clear g10
  have g10 := BS2.out.at 10 _ rfl
  go_wp2_with fail
  refine (k3.out _ _).mono ?_
  rintro e w3 ⟨A2, c2, l2, rfl, hm2, hq2, hb3⟩
  have HM2 := Lib.hid hm2
  have Q2 := Lib.hid hq2
  have Q1' := Lib.hid (Q1.out.below hb3 (Nat.le_refl _))
  have U3 := Lib.hid (U2.out.later hb3)
  have BS3 := Lib.hid (BS2.out.later hb3)
  have BN3 := Lib.hid (BN2.out.later hb3)
  have BR3 := Lib.hid (BR2.out.later hb3)
  have hs3 := hb3.size
  clear hb3 hm2 hq2 U2 BS2 BN2 BR2 HA2 k3 Q1 g10
  have f13 := BS3.out.at 13 _ rfl
  have f10 := BS3.out.at 10 _ rfl
  have fz := BS3.out.frozen
  go_wp2_with fail
  go_loopg [38] l.length (fun gk i wr => ∃ k : Nat, gk + k = l.length ∧ i = .int .i64 k ∧ Hid (Blk wr w.heap.size 26 #[.int .i64 le, .int .i64 mo, .int .i64 nw, .bool on, .int .i64 ze, .int .i64 fi, .int .i64 hi, .int .i64 (Jb.maxSq dn ((Jb.due now (l.map TW.w)).take k)), .int .i64 sp, .int .i64 tr, .slice A2 0 c2, .int .i64 la, .int .i64 tw, .int .i64 (pd + l.length)]) ∧ Hid (Blk wr (w.heap.size + 1) 3 #[.int .i64 now]) ∧ Hid (Blk wr (w.heap.size + 1 + 1) 26 #[.int .i64 0, .int .i64 0, .int .i64 0, .bool false, .int .i64 0, .int .i64 0, .int .i64 0, .int .i64 0, .int .i64 0, .int .i64 0, .slice none 0 0, .int .i64 0, .int .i64 0, .int .i64 0]) ∧ Hid (WtsIn wr w1.heap.size w2.heap.size A1 l1) ∧ Hid (QOwn wr w2.heap.size A2 0 c2 l2) ∧ Hid (Bel w wr) ∧ Hid (w2.heap.size ≤ wr.heap.size))
  case atStart =>
    refine ⟨0, rfl, rfl, Lib.hid ?_, Lib.hid ?_, Lib.hid ?_, Lib.hid ?_, Lib.hid ?_, Lib.hid ?_, Lib.hid ?_⟩
    · exact (BS3.out.set_ 10 (.slice A2 0 c2)).set_ 13 (.int .i64 (pd + l.length))
    · exact (BN3.out.far (by simp) _).far (by simp) _
    · exact (BR3.out.far (by simp; omega) _).far (by simp; omega) _
    · exact (Q1'.out.setCell (by simp; omega) _).setCell (by simp; omega) _
    · exact (Q2.out.setCell (by simp; omega) _).setCell (by simp; omega) _
    · exact below_set_old (below_set_old U3.out (Nat.le_refl _) _) (Nat.le_refl _) _
    · simpa [World.setCell] using hs3
  case round =>
    obtain ⟨k, hgk, rfl, BSr, BNr, BRr, W1r, Q2r, Ur, HSr⟩ := hrel
    have hi0 : (0 : Int) ≤ (k : Int) := by omega
    have hz0 := BSr.out.lt
    have fzr := BSr.out.frozen
    by_cases hk : k < l.length
    rotate_left
    · obtain rfl : k = l.length := by omega
      have hi1 : (l.length : Int) ≤ (l.length : Int) := Int.le_refl _
      have p0 := BSr.out.at 0 _ rfl
      have p1 := BSr.out.at 1 _ rfl
      have p2 := BSr.out.at 2 _ rfl
      have p3 := BSr.out.at 3 _ rfl
      have p4 := BSr.out.at 4 _ rfl
      have p5 := BSr.out.at 5 _ rfl
      have p6 := BSr.out.at 6 _ rfl
      have p7 := BSr.out.at 7 _ rfl
      have p8 := BSr.out.at 8 _ rfl
      have p9 := BSr.out.at 9 _ rfl
      have p10 := BSr.out.at 10 _ rfl
      have p11 := BSr.out.at 11 _ rfl
      have p12 := BSr.out.at 12 _ rfl
      have p13 := BSr.out.at 13 _ rfl
      have r0 := BRr.out.at 0 _ rfl
      have r1 := BRr.out.at 1 _ rfl
      have r2 := BRr.out.at 2 _ rfl
      have r3 := BRr.out.at 3 _ rfl
      have r4 := BRr.out.at 4 _ rfl
      have r5 := BRr.out.at 5 _ rfl
      have r6 := BRr.out.at 6 _ rfl
      have r7 := BRr.out.at 7 _ rfl
      have r8 := BRr.out.at 8 _ rfl
      have r9 := BRr.out.at 9 _ rfl
      have r10 := BRr.out.at 10 _ rfl
      have r11 := BRr.out.at 11 _ rfl
      have r12 := BRr.out.at 12 _ rfl
      have r13 := BRr.out.at 13 _ rfl
      have n0 := BNr.out.at 0 _ rfl
      have rfz := BRr.out.frozen
      go_wp2_with fail
      have htk : (Jb.due now (l.map TW.w)).take l.length = Jb.due now (l.map TW.w) := List.take_of_length_le (Nat.le_of_eq HD.out.symm)
      rw [htk]
      have BF := Blk.setRow (BRr.out.far (p := ⟨w.heap.size, 2, none⟩) (by simp; omega) (.int .i64 now)) [.int .i64 le, .int .i64 mo, .int .i64 now, .bool on, .int .i64 ze, .int .i64 fi, .int .i64 hi, .int .i64 (Jb.maxSq dn (Jb.due now (l.map TW.w))), .int .i64 sp, .int .i64 tr, .slice A2 0 c2, .int .i64 la, .int .i64 tw, .int .i64 (pd + l.length)] rfl
      have QF := QOwn.setRow (g := w.heap.size + 1 + 1) (by omega) [.int .i64 le, .int .i64 mo, .int .i64 now, .bool on, .int .i64 ze, .int .i64 fi, .int .i64 hi, .int .i64 (Jb.maxSq dn (Jb.due now (l.map TW.w))), .int .i64 sp, .int .i64 tr, .slice A2 0 c2, .int .i64 la, .int .i64 tw, .int .i64 (pd + l.length)] _ 0 (Q2r.out.setCell (p := ⟨w.heap.size, 2, none⟩) (by simp; omega) (.int .i64 now))
      have WF := WtsIn.setRow (g := w.heap.size + 1 + 1) (by omega) [.int .i64 le, .int .i64 mo, .int .i64 now, .bool on, .int .i64 ze, .int .i64 fi, .int .i64 hi, .int .i64 (Jb.maxSq dn (Jb.due now (l.map TW.w))), .int .i64 sp, .int .i64 tr, .slice A2 0 c2, .int .i64 la, .int .i64 tw, .int .i64 (pd + l.length)] _ 0 (W1r.out.setCell (p := ⟨w.heap.size, 2, none⟩) (by simp; omega) (.int .i64 now))
      have UF := below_setRow (g := w.heap.size + 1 + 1) (by omega) [.int .i64 le, .int .i64 mo, .int .i64 now, .bool on, .int .i64 ze, .int .i64 fi, .int .i64 hi, .int .i64 (Jb.maxSq dn (Jb.due now (l.map TW.w))), .int .i64 sp, .int .i64 tr, .slice A2 0 c2, .int .i64 la, .int .i64 tw, .int .i64 (pd + l.length)] _ 0 (below_set_old (p := ⟨w.heap.size, 2, none⟩) Ur.out (Nat.le_refl _) (.int .i64 now))
      have SF := setRow_size (w.heap.size + 1 + 1) [.int .i64 le, .int .i64 mo, .int .i64 now, .bool on, .int .i64 ze, .int .i64 fi, .int .i64 hi, .int .i64 (Jb.maxSq dn (Jb.due now (l.map TW.w))), .int .i64 sp, .int .i64 tr, .slice A2 0 c2, .int .i64 la, .int .i64 tw, .int .i64 (pd + l.length)] (wr.setCell ⟨w.heap.size, 2, none⟩ (.int .i64 now)) 0
      obtain ⟨W, hW⟩ : ∃ W, W = setRow (w.heap.size + 1 + 1) (wr.setCell ⟨w.heap.size, 2, none⟩ (.int .i64 now)) 0 [.int .i64 le, .int .i64 mo, .int .i64 now, .bool on, .int .i64 ze, .int .i64 fi, .int .i64 hi, .int .i64 (Jb.maxSq dn (Jb.due now (l.map TW.w))), .int .i64 sp, .int .i64 tr, .slice A2 0 c2, .int .i64 la, .int .i64 tw, .int .i64 (pd + l.length)] := ⟨_, rfl⟩
      rw [← hW] at BF QF WF UF SF
      simp only [setRow, Nat.zero_add, Nat.reduceAdd] at hW
      rw [← hW]
      have hl2 : l2.length = 0 := Q2r.out.len
      have hl1 : l1.length = l.length := HL1.out
      rw [← hl2] at BF QF
      exact bodyPost_ret (v := .tuple #[.agg (List.toArray [.int .i64 le, .int .i64 mo, .int .i64 now, .bool on, .int .i64 ze, .int .i64 fi, .int .i64 hi, .int .i64 (Jb.maxSq dn (Jb.due now (l.map TW.w))), .int .i64 sp, .int .i64 tr, .slice A2 l2.length c2, .int .i64 la, .int .i64 tw, .int .i64 (pd + l.length)]), .slice A1 l.length c1]) (res_ct Try.results29 rfl (run_loadVar_row (P := Try.prog) _ _ _ _ _ _ _ BF Try.underlying26 rfl (by kernel_rfl)) rfl) rfl ⟨A1, c1, l1, A2, c2, l2, w2.heap.size, by rw [hl1, ← HD.out], HM1.out, HM2.out, WF.less (by omega), QF, by omega, by have := HSr.out; rw [SF]; simpa [World.setCell] using this, UF⟩
    have hi1 : (k : Int) < (l.length : Int) := by omega
    have hl1 : l1.length = l.length := HL1.out
    obtain ⟨a, ha⟩ : ∃ a, l1[k]? = some a := ⟨_, List.getElem?_eq_getElem (by omega)⟩
    obtain ⟨b9, off9, rfl, hbB, e0, e1, e2, e3, e4, e5⟩ := rowsW W1r.out.rows.1 ha
    have hm : (Jb.due now (l.map TW.w))[k]? = some a.w := by rw [← HM1.out, List.getElem?_map, ha]; rfl
    have HM := Lib.hid hm
    obtain ⟨⟨at0, ⟨sq0, ti0, mk0, ty0, pl0⟩⟩, B0, c0⟩ := a
    simp only at e0 e1 e2 e3 e4 e5 HM
    have hbw : b9 < wr.heap.size := Nat.lt_of_lt_of_le hbB HSr.out
    have p7 := BSr.out.at 7 _ rfl
    clear ha hm hl1
    go_wp2_with fail
    go_roundg (gk - 1)
    case measure => omega
    case rel =>
      refine ⟨k + 1, by omega, by go_num, Lib.hid ?_, Lib.hid ?_, Lib.hid ?_, Lib.hid ?_, Lib.hid ?_, Lib.hid ?_, Lib.hid ?_⟩
      · rw [List.take_add_one, HM.out]
        simp only [Option.toList_some]
        rw [maxSq_snoc]
        exact (BSr.out.set_ 7 _).push _
      · exact (BNr.out.far (by simp) _).push _
      · exact (BRr.out.far (by simp; omega) _).push _
      · exact (W1r.out.setCell (by simp; omega) _).below ((Below.refl _ _).alloc (Nat.le_refl _) _) (by have := HSr.out; simpa [World.setCell] using this)
      · exact (Q2r.out.setCell (by simp; omega) _).push _
      · exact Bel.push (below_set_old Ur.out (Nat.le_refl _) _) _
      · have := HSr.out; simp [World.setCell]; omega
end Go.Proofs.Ytnaafjdnmbajjaa
/- Layer 30: run, where the queue is nil. -/
namespace Go.Proofs.Ytnaafjdnmbajjaa
open Go.RowKit
set_option linter.unusedVariables false
set_option linter.unusedSimpArgs false
attribute [local go_sem ↓] run_min_plain run_max_plain
attribute [local go_sem] setCell_drewN alloc_drewN
set_option maxRecDepth 100000 in
set_option maxHeartbeats 12800000 in
theorem run_nil (le mo nw : Int) (on : Bool) (ze fi hi dn sp tr : Int) (qc : Nat) (la tw pd now : Int) (w : World) (hpd : -9223372036854775808 ≤ pd ∧ pd ≤ 9223372036854775000) : Calls Try.prog 29 #[.agg #[.int .i64 le, .int .i64 mo, .int .i64 nw, .bool on, .int .i64 ze, .int .i64 fi, .int .i64 hi, .int .i64 dn, .int .i64 sp, .int .i64 tr, .slice none 0 qc, .int .i64 la, .int .i64 tw, .int .i64 pd], .int .i64 now] w (RunR le mo on ze fi hi dn sp tr [] la tw pd now w) := by
  have hR : firstLate now (([] : List TW).map TW.w) = -1 := rfl
  have hA : Wts w w.heap.size none [] := Wts.empty
  obtain ⟨W0, hW0⟩ : ∃ W0, W0 = ((w.alloc (.cells #[.int .i64 le, .int .i64 mo, .int .i64 nw, .bool on, .int .i64 ze, .int .i64 fi, .int .i64 hi, .int .i64 dn, .int .i64 sp, .int .i64 tr, .slice none 0 qc, .int .i64 la, .int .i64 tw, .int .i64 pd] 26)).alloc (.cells #[.int .i64 now] 3)).alloc (.cells #[.int .i64 0, .int .i64 0, .int .i64 0, .bool false, .int .i64 0, .int .i64 0, .int .i64 0, .int .i64 0, .int .i64 0, .int .i64 0, .slice none 0 0, .int .i64 0, .int .i64 0, .int .i64 0] 26) := ⟨_, rfl⟩
  have hU0 : Bel w W0 := by rw [hW0]; exact (((Bel.refl w).push _).push _).push _
  have hB0 : Blk W0 w.heap.size 26 #[.int .i64 le, .int .i64 mo, .int .i64 nw, .bool on, .int .i64 ze, .int .i64 fi, .int .i64 hi, .int .i64 dn, .int .i64 sp, .int .i64 tr, .slice none 0 qc, .int .i64 la, .int .i64 tw, .int .i64 pd] := by rw [hW0]; exact ((Blk.new w _ _).push _).push _
  have hB1 : Blk W0 (w.heap.size + 1) 3 #[.int .i64 now] := by rw [hW0]; exact (Blk.new1 w _ _ _).push _
  have hB2 : Blk W0 (w.heap.size + 1 + 1) 26 #[.int .i64 0, .int .i64 0, .int .i64 0, .bool false, .int .i64 0, .int .i64 0, .int .i64 0, .int .i64 0, .int .i64 0, .int .i64 0, .slice none 0 0, .int .i64 0, .int .i64 0, .int .i64 0] := by rw [hW0]; have := Blk.new ((w.alloc (.cells #[.int .i64 le, .int .i64 mo, .int .i64 nw, .bool on, .int .i64 ze, .int .i64 fi, .int .i64 hi, .int .i64 dn, .int .i64 sp, .int .i64 tr, .slice none 0 qc, .int .i64 la, .int .i64 tw, .int .i64 pd] 26)).alloc (.cells #[.int .i64 now] 3)) 26 #[.int .i64 0, .int .i64 0, .int .i64 0, .bool false, .int .i64 0, .int .i64 0, .int .i64 0, .int .i64 0, .int .i64 0, .int .i64 0, .slice none 0 0, .int .i64 0, .int .i64 0, .int .i64 0]; rw [size_alloc2] at this; exact this
  have hA0 : Wts W0 W0.heap.size none [] := (hA.below hU0).more hU0.size
  have k1 := index_any none [] 0 qc (w.heap.size + 1) now W0 rfl (by omega) hA0 (hB1.at 0 _ rfl) hB1.lt
  rw [hR] at k1
  rw [hW0] at k1
  have K1 := Lib.hid k1
  have HW0 := Lib.hid hW0
  have U0 := Lib.hid hU0
  have BS := Lib.hid hB0
  have BN := Lib.hid hB1
  have BR := Lib.hid hB2
  have HA := Lib.hid hA0
  clear k1 hW0 hU0 hB0 hB1 hB2 hA0 hA hR
  go_enter Try.func29, Try.ntmps29
  go_wp2_with fail
  refine K1.out.mono ?_
  rw [← HW0.out]
  rintro e w1 ⟨rfl, hb1⟩
  have U1 := Lib.hid (U0.out.later hb1)
  have BS1 := Lib.hid (BS.out.later hb1)
  have BN1 := Lib.hid (BN.out.later hb1)
  have BR1 := Lib.hid (BR.out.later hb1)
  have HA1 := Lib.hid (HA.out.later hb1)
  have g10 := BS1.out.at 10 _ rfl
  clear hb1 K1 HW0 U0 BS BN BR HA
  have k2 := Lib.hid fun (A9 : Option Addr) (c9 : Nat) => (copyQueue_n A9 [] 0 c9 w1 w1.heap.size (Nat.le_refl _) rfl (by omega) Wts.empty (fun _ h => by cases h) (Jb.due now []) rfl)
  go_wp2_with fail
  refine (k2.out _ _).mono ?_
  rintro e w2 ⟨A1, c1, l1, rfl, hm1, hq1, hb2⟩
  have HM1 := Lib.hid hm1
  have Q1 := Lib.hid hq1.wtsIn
  have HL1 := Lib.hid hq1.len
  have U2 := Lib.hid (U1.out.later hb2)
  have BS2 := Lib.hid (BS1.out.later hb2)
  have BN2 := Lib.hid (BN1.out.later hb2)
  have BR2 := Lib.hid (BR1.out.later hb2)
  have HA2 := Lib.hid (HA1.out.later hb2)
  have hs1 := BR1.out.lt
  have hs2 := hb2.size
  have k3 := Lib.hid fun (A9 : Option Addr) (c9 : Nat) => (copyQueue_n A9 [] 0 c9 w2 w2.heap.size (Nat.le_refl _) rfl (by omega) Wts.empty (fun _ h => by cases h) (Jb.left now []) rfl)
  clear hb2 hm1 hq1 U1 BS1 BN1 BR1 HA1 k2
  clear g10
  have g10 := BS2.out.at 10 _ rfl
  go_wp2_with fail
  refine (k3.out _ _).mono ?_
  rintro e w3 ⟨A2, c2, l2, rfl, hm2, hq2, hb3⟩
  have HM2 := Lib.hid hm2
  have Q2 := Lib.hid hq2
  have Q1' := Lib.hid (Q1.out.below hb3 (Nat.le_refl _))
  have U3 := Lib.hid (U2.out.later hb3)
  have BS3 := Lib.hid (BS2.out.later hb3)
  have BN3 := Lib.hid (BN2.out.later hb3)
  have BR3 := Lib.hid (BR2.out.later hb3)
  have hs3 := hb3.size
  clear hb3 hm2 hq2 U2 BS2 BN2 BR2 HA2 k3 Q1 g10
  have f13 := BS3.out.at 13 _ rfl
  have f10 := BS3.out.at 10 _ rfl
  have fz := BS3.out.frozen
  go_wp2_with fail
  go_loopg [38] 0 (fun gk i wr => ∃ k : Nat, gk + k = 0 ∧ i = .int .i64 k ∧ Hid (Blk wr w.heap.size 26 #[.int .i64 le, .int .i64 mo, .int .i64 nw, .bool on, .int .i64 ze, .int .i64 fi, .int .i64 hi, .int .i64 (Jb.maxSq dn (([] : List Jb.Wt))), .int .i64 sp, .int .i64 tr, .slice A2 0 c2, .int .i64 la, .int .i64 tw, .int .i64 pd]) ∧ Hid (Blk wr (w.heap.size + 1) 3 #[.int .i64 now]) ∧ Hid (Blk wr (w.heap.size + 1 + 1) 26 #[.int .i64 0, .int .i64 0, .int .i64 0, .bool false, .int .i64 0, .int .i64 0, .int .i64 0, .int .i64 0, .int .i64 0, .int .i64 0, .slice none 0 0, .int .i64 0, .int .i64 0, .int .i64 0]) ∧ Hid (WtsIn wr w1.heap.size w2.heap.size A1 l1) ∧ Hid (QOwn wr w2.heap.size A2 0 c2 l2) ∧ Hid (Bel w wr) ∧ Hid (w2.heap.size ≤ wr.heap.size))
  case atStart =>
    refine ⟨0, rfl, rfl, Lib.hid ?_, Lib.hid ?_, Lib.hid ?_, Lib.hid ?_, Lib.hid ?_, Lib.hid ?_, Lib.hid ?_⟩
    · exact (BS3.out.set_ 10 (.slice A2 0 c2)).set_ 13 (.int .i64 pd)
    · exact (BN3.out.far (by simp) _).far (by simp) _
    · exact (BR3.out.far (by simp; omega) _).far (by simp; omega) _
    · exact (Q1'.out.setCell (by simp; omega) _).setCell (by simp; omega) _
    · exact (Q2.out.setCell (by simp; omega) _).setCell (by simp; omega) _
    · exact below_set_old (below_set_old U3.out (Nat.le_refl _) _) (Nat.le_refl _) _
    · simpa [World.setCell] using hs3
  case round =>
    obtain ⟨k, hgk, rfl, BSr, BNr, BRr, W1r, Q2r, Ur, HSr⟩ := hrel
    have hi0 : (0 : Int) ≤ (k : Int) := by omega
    have hz0 := BSr.out.lt
    have fzr := BSr.out.frozen
    by_cases hk : k < 0
    rotate_left
    · obtain rfl : k = 0 := by omega
      have hi1 : (0 : Int) ≤ (0 : Int) := Int.le_refl _
      have p0 := BSr.out.at 0 _ rfl
      have p1 := BSr.out.at 1 _ rfl
      have p2 := BSr.out.at 2 _ rfl
      have p3 := BSr.out.at 3 _ rfl
      have p4 := BSr.out.at 4 _ rfl
      have p5 := BSr.out.at 5 _ rfl
      have p6 := BSr.out.at 6 _ rfl
      have p7 := BSr.out.at 7 _ rfl
      have p8 := BSr.out.at 8 _ rfl
      have p9 := BSr.out.at 9 _ rfl
      have p10 := BSr.out.at 10 _ rfl
      have p11 := BSr.out.at 11 _ rfl
      have p12 := BSr.out.at 12 _ rfl
      have p13 := BSr.out.at 13 _ rfl
      have r0 := BRr.out.at 0 _ rfl
      have r1 := BRr.out.at 1 _ rfl
      have r2 := BRr.out.at 2 _ rfl
      have r3 := BRr.out.at 3 _ rfl
      have r4 := BRr.out.at 4 _ rfl
      have r5 := BRr.out.at 5 _ rfl
      have r6 := BRr.out.at 6 _ rfl
      have r7 := BRr.out.at 7 _ rfl
      have r8 := BRr.out.at 8 _ rfl
      have r9 := BRr.out.at 9 _ rfl
      have r10 := BRr.out.at 10 _ rfl
      have r11 := BRr.out.at 11 _ rfl
      have r12 := BRr.out.at 12 _ rfl
      have r13 := BRr.out.at 13 _ rfl
      have n0 := BNr.out.at 0 _ rfl
      have rfz := BRr.out.frozen
      go_wp2_with fail
      have BF := Blk.setRow (BRr.out.far (p := ⟨w.heap.size, 2, none⟩) (by simp; omega) (.int .i64 now)) [.int .i64 le, .int .i64 mo, .int .i64 now, .bool on, .int .i64 ze, .int .i64 fi, .int .i64 hi, .int .i64 (Jb.maxSq dn []), .int .i64 sp, .int .i64 tr, .slice A2 0 c2, .int .i64 la, .int .i64 tw, .int .i64 pd] rfl
      have QF := QOwn.setRow (g := w.heap.size + 1 + 1) (by omega) [.int .i64 le, .int .i64 mo, .int .i64 now, .bool on, .int .i64 ze, .int .i64 fi, .int .i64 hi, .int .i64 (Jb.maxSq dn []), .int .i64 sp, .int .i64 tr, .slice A2 0 c2, .int .i64 la, .int .i64 tw, .int .i64 pd] _ 0 (Q2r.out.setCell (p := ⟨w.heap.size, 2, none⟩) (by simp; omega) (.int .i64 now))
      have WF := WtsIn.setRow (g := w.heap.size + 1 + 1) (by omega) [.int .i64 le, .int .i64 mo, .int .i64 now, .bool on, .int .i64 ze, .int .i64 fi, .int .i64 hi, .int .i64 (Jb.maxSq dn []), .int .i64 sp, .int .i64 tr, .slice A2 0 c2, .int .i64 la, .int .i64 tw, .int .i64 pd] _ 0 (W1r.out.setCell (p := ⟨w.heap.size, 2, none⟩) (by simp; omega) (.int .i64 now))
      have UF := below_setRow (g := w.heap.size + 1 + 1) (by omega) [.int .i64 le, .int .i64 mo, .int .i64 now, .bool on, .int .i64 ze, .int .i64 fi, .int .i64 hi, .int .i64 (Jb.maxSq dn []), .int .i64 sp, .int .i64 tr, .slice A2 0 c2, .int .i64 la, .int .i64 tw, .int .i64 pd] _ 0 (below_set_old (p := ⟨w.heap.size, 2, none⟩) Ur.out (Nat.le_refl _) (.int .i64 now))
      have SF := setRow_size (w.heap.size + 1 + 1) [.int .i64 le, .int .i64 mo, .int .i64 now, .bool on, .int .i64 ze, .int .i64 fi, .int .i64 hi, .int .i64 (Jb.maxSq dn []), .int .i64 sp, .int .i64 tr, .slice A2 0 c2, .int .i64 la, .int .i64 tw, .int .i64 pd] (wr.setCell ⟨w.heap.size, 2, none⟩ (.int .i64 now)) 0
      obtain ⟨W, hW⟩ : ∃ W, W = setRow (w.heap.size + 1 + 1) (wr.setCell ⟨w.heap.size, 2, none⟩ (.int .i64 now)) 0 [.int .i64 le, .int .i64 mo, .int .i64 now, .bool on, .int .i64 ze, .int .i64 fi, .int .i64 hi, .int .i64 (Jb.maxSq dn []), .int .i64 sp, .int .i64 tr, .slice A2 0 c2, .int .i64 la, .int .i64 tw, .int .i64 pd] := ⟨_, rfl⟩
      rw [← hW] at BF QF WF UF SF
      simp only [setRow, Nat.zero_add, Nat.reduceAdd] at hW
      rw [← hW]
      have hl2 : l2.length = 0 := Q2r.out.len
      have hl1 : l1.length = 0 := HL1.out
      rw [← hl2] at BF QF
      exact bodyPost_ret (v := .tuple #[.agg (List.toArray [.int .i64 le, .int .i64 mo, .int .i64 now, .bool on, .int .i64 ze, .int .i64 fi, .int .i64 hi, .int .i64 (Jb.maxSq dn []), .int .i64 sp, .int .i64 tr, .slice A2 l2.length c2, .int .i64 la, .int .i64 tw, .int .i64 pd]), .slice A1 0 c1]) (res_ct Try.results29 rfl (run_loadVar_row (P := Try.prog) _ _ _ _ _ _ _ BF Try.underlying26 rfl (by kernel_rfl)) rfl) rfl ⟨A1, c1, l1, A2, c2, l2, w2.heap.size, by rw [hl1, show ((Jb.due now []).length : Int) = 0 from rfl, Int.add_zero]; rfl, HM1.out, HM2.out, WF.less (by omega), QF, by omega, by have := HSr.out; rw [SF]; simpa [World.setCell] using this, UF⟩
    exact absurd hk (by omega)
set_option maxRecDepth 100000 in
set_option maxHeartbeats 12800000 in
theorem run_nowhere (le mo nw : Int) (on : Bool) (ze fi hi dn sp tr : Int) (a : Addr) (qc : Nat) (la tw pd now : Int) (w : World) (hcm : qc ≤ maxLen) (hpd : -9223372036854775808 ≤ pd ∧ pd ≤ 9223372036854775000) : Calls Try.prog 29 #[.agg #[.int .i64 le, .int .i64 mo, .int .i64 nw, .bool on, .int .i64 ze, .int .i64 fi, .int .i64 hi, .int .i64 dn, .int .i64 sp, .int .i64 tr, .slice (some a) 0 qc, .int .i64 la, .int .i64 tw, .int .i64 pd], .int .i64 now] w (RunR le mo on ze fi hi dn sp tr [] la tw pd now w) := by
  have hR : firstLate now (([] : List TW).map TW.w) = -1 := rfl
  have hA : Wts w w.heap.size (some a) [] := Wts.empty
  obtain ⟨W0, hW0⟩ : ∃ W0, W0 = ((w.alloc (.cells #[.int .i64 le, .int .i64 mo, .int .i64 nw, .bool on, .int .i64 ze, .int .i64 fi, .int .i64 hi, .int .i64 dn, .int .i64 sp, .int .i64 tr, .slice (some a) 0 qc, .int .i64 la, .int .i64 tw, .int .i64 pd] 26)).alloc (.cells #[.int .i64 now] 3)).alloc (.cells #[.int .i64 0, .int .i64 0, .int .i64 0, .bool false, .int .i64 0, .int .i64 0, .int .i64 0, .int .i64 0, .int .i64 0, .int .i64 0, .slice none 0 0, .int .i64 0, .int .i64 0, .int .i64 0] 26) := ⟨_, rfl⟩
  have hU0 : Bel w W0 := by rw [hW0]; exact (((Bel.refl w).push _).push _).push _
  have hB0 : Blk W0 w.heap.size 26 #[.int .i64 le, .int .i64 mo, .int .i64 nw, .bool on, .int .i64 ze, .int .i64 fi, .int .i64 hi, .int .i64 dn, .int .i64 sp, .int .i64 tr, .slice (some a) 0 qc, .int .i64 la, .int .i64 tw, .int .i64 pd] := by rw [hW0]; exact ((Blk.new w _ _).push _).push _
  have hB1 : Blk W0 (w.heap.size + 1) 3 #[.int .i64 now] := by rw [hW0]; exact (Blk.new1 w _ _ _).push _
  have hB2 : Blk W0 (w.heap.size + 1 + 1) 26 #[.int .i64 0, .int .i64 0, .int .i64 0, .bool false, .int .i64 0, .int .i64 0, .int .i64 0, .int .i64 0, .int .i64 0, .int .i64 0, .slice none 0 0, .int .i64 0, .int .i64 0, .int .i64 0] := by rw [hW0]; have := Blk.new ((w.alloc (.cells #[.int .i64 le, .int .i64 mo, .int .i64 nw, .bool on, .int .i64 ze, .int .i64 fi, .int .i64 hi, .int .i64 dn, .int .i64 sp, .int .i64 tr, .slice (some a) 0 qc, .int .i64 la, .int .i64 tw, .int .i64 pd] 26)).alloc (.cells #[.int .i64 now] 3)) 26 #[.int .i64 0, .int .i64 0, .int .i64 0, .bool false, .int .i64 0, .int .i64 0, .int .i64 0, .int .i64 0, .int .i64 0, .int .i64 0, .slice none 0 0, .int .i64 0, .int .i64 0, .int .i64 0]; rw [size_alloc2] at this; exact this
  have hA0 : Wts W0 W0.heap.size (some a) [] := (hA.below hU0).more hU0.size
  have k1 := index_any (some a) [] 0 qc (w.heap.size + 1) now W0 rfl (by omega) hA0 (hB1.at 0 _ rfl) hB1.lt
  rw [hR] at k1
  rw [hW0] at k1
  have K1 := Lib.hid k1
  have HW0 := Lib.hid hW0
  have U0 := Lib.hid hU0
  have BS := Lib.hid hB0
  have BN := Lib.hid hB1
  have BR := Lib.hid hB2
  have HA := Lib.hid hA0
  clear k1 hW0 hU0 hB0 hB1 hB2 hA0 hA hR
  unfold maxLen at hcm
  have h00 : (0 : Int) ≤ (qc : Int) := by omega
  by_cases hq : qc = 0
  · subst hq
    go_enter Try.func29, Try.ntmps29
    go_wp2_with fail
    refine K1.out.mono ?_
    rw [← HW0.out]
    rintro e w1 ⟨rfl, hb1⟩
    have U1 := Lib.hid (U0.out.later hb1)
    have BS1 := Lib.hid (BS.out.later hb1)
    have BN1 := Lib.hid (BN.out.later hb1)
    have BR1 := Lib.hid (BR.out.later hb1)
    have HA1 := Lib.hid (HA.out.later hb1)
    have g10 := BS1.out.at 10 _ rfl
    clear hb1 K1 HW0 U0 BS BN BR HA
    have k2 := Lib.hid fun (A9 : Option Addr) (c9 : Nat) => (copyQueue_n A9 [] 0 c9 w1 w1.heap.size (Nat.le_refl _) rfl (by omega) Wts.empty (fun _ h => by cases h) (Jb.due now []) rfl)
    go_wp2_with fail
    refine (k2.out _ _).mono ?_
    rintro e w2 ⟨A1, c1, l1, rfl, hm1, hq1, hb2⟩
    have HM1 := Lib.hid hm1
    have Q1 := Lib.hid hq1.wtsIn
    have HL1 := Lib.hid hq1.len
    have U2 := Lib.hid (U1.out.later hb2)
    have BS2 := Lib.hid (BS1.out.later hb2)
    have BN2 := Lib.hid (BN1.out.later hb2)
    have BR2 := Lib.hid (BR1.out.later hb2)
    have HA2 := Lib.hid (HA1.out.later hb2)
    have hs1 := BR1.out.lt
    have hs2 := hb2.size
    have k3 := Lib.hid fun (A9 : Option Addr) (c9 : Nat) => (copyQueue_n A9 [] 0 c9 w2 w2.heap.size (Nat.le_refl _) rfl (by omega) Wts.empty (fun _ h => by cases h) (Jb.left now []) rfl)
    clear hb2 hm1 hq1 U1 BS1 BN1 BR1 HA1 k2
    clear g10
    have g10 := BS2.out.at 10 _ rfl
    go_wp2_with fail
    refine (k3.out _ _).mono ?_
    rintro e w3 ⟨A2, c2, l2, rfl, hm2, hq2, hb3⟩
    have HM2 := Lib.hid hm2
    have Q2 := Lib.hid hq2
    have Q1' := Lib.hid (Q1.out.below hb3 (Nat.le_refl _))
    have U3 := Lib.hid (U2.out.later hb3)
    have BS3 := Lib.hid (BS2.out.later hb3)
    have BN3 := Lib.hid (BN2.out.later hb3)
    have BR3 := Lib.hid (BR2.out.later hb3)
    have hs3 := hb3.size
    clear hb3 hm2 hq2 U2 BS2 BN2 BR2 HA2 k3 Q1 g10
    have f13 := BS3.out.at 13 _ rfl
    have f10 := BS3.out.at 10 _ rfl
    have fz := BS3.out.frozen
    go_wp2_with fail
    go_loopg [38] 0 (fun gk i wr => ∃ k : Nat, gk + k = 0 ∧ i = .int .i64 k ∧ Hid (Blk wr w.heap.size 26 #[.int .i64 le, .int .i64 mo, .int .i64 nw, .bool on, .int .i64 ze, .int .i64 fi, .int .i64 hi, .int .i64 (Jb.maxSq dn (([] : List Jb.Wt))), .int .i64 sp, .int .i64 tr, .slice A2 0 c2, .int .i64 la, .int .i64 tw, .int .i64 pd]) ∧ Hid (Blk wr (w.heap.size + 1) 3 #[.int .i64 now]) ∧ Hid (Blk wr (w.heap.size + 1 + 1) 26 #[.int .i64 0, .int .i64 0, .int .i64 0, .bool false, .int .i64 0, .int .i64 0, .int .i64 0, .int .i64 0, .int .i64 0, .int .i64 0, .slice none 0 0, .int .i64 0, .int .i64 0, .int .i64 0]) ∧ Hid (WtsIn wr w1.heap.size w2.heap.size A1 l1) ∧ Hid (QOwn wr w2.heap.size A2 0 c2 l2) ∧ Hid (Bel w wr) ∧ Hid (w2.heap.size ≤ wr.heap.size))
    case atStart =>
      refine ⟨0, rfl, rfl, Lib.hid ?_, Lib.hid ?_, Lib.hid ?_, Lib.hid ?_, Lib.hid ?_, Lib.hid ?_, Lib.hid ?_⟩
      · exact (BS3.out.set_ 10 (.slice A2 0 c2)).set_ 13 (.int .i64 pd)
      · exact (BN3.out.far (by simp) _).far (by simp) _
      · exact (BR3.out.far (by simp; omega) _).far (by simp; omega) _
      · exact (Q1'.out.setCell (by simp; omega) _).setCell (by simp; omega) _
      · exact (Q2.out.setCell (by simp; omega) _).setCell (by simp; omega) _
      · exact below_set_old (below_set_old U3.out (Nat.le_refl _) _) (Nat.le_refl _) _
      · simpa [World.setCell] using hs3
    case round =>
      obtain ⟨k, hgk, rfl, BSr, BNr, BRr, W1r, Q2r, Ur, HSr⟩ := hrel
      have hi0 : (0 : Int) ≤ (k : Int) := by omega
      have hz0 := BSr.out.lt
      have fzr := BSr.out.frozen
      by_cases hk : k < 0
      rotate_left
      · obtain rfl : k = 0 := by omega
        have hi1 : (0 : Int) ≤ (0 : Int) := Int.le_refl _
        have p0 := BSr.out.at 0 _ rfl
        have p1 := BSr.out.at 1 _ rfl
        have p2 := BSr.out.at 2 _ rfl
        have p3 := BSr.out.at 3 _ rfl
        have p4 := BSr.out.at 4 _ rfl
        have p5 := BSr.out.at 5 _ rfl
        have p6 := BSr.out.at 6 _ rfl
        have p7 := BSr.out.at 7 _ rfl
        have p8 := BSr.out.at 8 _ rfl
        have p9 := BSr.out.at 9 _ rfl
        have p10 := BSr.out.at 10 _ rfl
        have p11 := BSr.out.at 11 _ rfl
        have p12 := BSr.out.at 12 _ rfl
        have p13 := BSr.out.at 13 _ rfl
        have r0 := BRr.out.at 0 _ rfl
        have r1 := BRr.out.at 1 _ rfl
        have r2 := BRr.out.at 2 _ rfl
        have r3 := BRr.out.at 3 _ rfl
        have r4 := BRr.out.at 4 _ rfl
        have r5 := BRr.out.at 5 _ rfl
        have r6 := BRr.out.at 6 _ rfl
        have r7 := BRr.out.at 7 _ rfl
        have r8 := BRr.out.at 8 _ rfl
        have r9 := BRr.out.at 9 _ rfl
        have r10 := BRr.out.at 10 _ rfl
        have r11 := BRr.out.at 11 _ rfl
        have r12 := BRr.out.at 12 _ rfl
        have r13 := BRr.out.at 13 _ rfl
        have n0 := BNr.out.at 0 _ rfl
        have rfz := BRr.out.frozen
        go_wp2_with fail
        have BF := Blk.setRow (BRr.out.far (p := ⟨w.heap.size, 2, none⟩) (by simp; omega) (.int .i64 now)) [.int .i64 le, .int .i64 mo, .int .i64 now, .bool on, .int .i64 ze, .int .i64 fi, .int .i64 hi, .int .i64 (Jb.maxSq dn []), .int .i64 sp, .int .i64 tr, .slice A2 0 c2, .int .i64 la, .int .i64 tw, .int .i64 pd] rfl
        have QF := QOwn.setRow (g := w.heap.size + 1 + 1) (by omega) [.int .i64 le, .int .i64 mo, .int .i64 now, .bool on, .int .i64 ze, .int .i64 fi, .int .i64 hi, .int .i64 (Jb.maxSq dn []), .int .i64 sp, .int .i64 tr, .slice A2 0 c2, .int .i64 la, .int .i64 tw, .int .i64 pd] _ 0 (Q2r.out.setCell (p := ⟨w.heap.size, 2, none⟩) (by simp; omega) (.int .i64 now))
        have WF := WtsIn.setRow (g := w.heap.size + 1 + 1) (by omega) [.int .i64 le, .int .i64 mo, .int .i64 now, .bool on, .int .i64 ze, .int .i64 fi, .int .i64 hi, .int .i64 (Jb.maxSq dn []), .int .i64 sp, .int .i64 tr, .slice A2 0 c2, .int .i64 la, .int .i64 tw, .int .i64 pd] _ 0 (W1r.out.setCell (p := ⟨w.heap.size, 2, none⟩) (by simp; omega) (.int .i64 now))
        have UF := below_setRow (g := w.heap.size + 1 + 1) (by omega) [.int .i64 le, .int .i64 mo, .int .i64 now, .bool on, .int .i64 ze, .int .i64 fi, .int .i64 hi, .int .i64 (Jb.maxSq dn []), .int .i64 sp, .int .i64 tr, .slice A2 0 c2, .int .i64 la, .int .i64 tw, .int .i64 pd] _ 0 (below_set_old (p := ⟨w.heap.size, 2, none⟩) Ur.out (Nat.le_refl _) (.int .i64 now))
        have SF := setRow_size (w.heap.size + 1 + 1) [.int .i64 le, .int .i64 mo, .int .i64 now, .bool on, .int .i64 ze, .int .i64 fi, .int .i64 hi, .int .i64 (Jb.maxSq dn []), .int .i64 sp, .int .i64 tr, .slice A2 0 c2, .int .i64 la, .int .i64 tw, .int .i64 pd] (wr.setCell ⟨w.heap.size, 2, none⟩ (.int .i64 now)) 0
        obtain ⟨W, hW⟩ : ∃ W, W = setRow (w.heap.size + 1 + 1) (wr.setCell ⟨w.heap.size, 2, none⟩ (.int .i64 now)) 0 [.int .i64 le, .int .i64 mo, .int .i64 now, .bool on, .int .i64 ze, .int .i64 fi, .int .i64 hi, .int .i64 (Jb.maxSq dn []), .int .i64 sp, .int .i64 tr, .slice A2 0 c2, .int .i64 la, .int .i64 tw, .int .i64 pd] := ⟨_, rfl⟩
        rw [← hW] at BF QF WF UF SF
        simp only [setRow, Nat.zero_add, Nat.reduceAdd] at hW
        rw [← hW]
        have hl2 : l2.length = 0 := Q2r.out.len
        have hl1 : l1.length = 0 := HL1.out
        rw [← hl2] at BF QF
        exact bodyPost_ret (v := .tuple #[.agg (List.toArray [.int .i64 le, .int .i64 mo, .int .i64 now, .bool on, .int .i64 ze, .int .i64 fi, .int .i64 hi, .int .i64 (Jb.maxSq dn []), .int .i64 sp, .int .i64 tr, .slice A2 l2.length c2, .int .i64 la, .int .i64 tw, .int .i64 pd]), .slice A1 0 c1]) (res_ct Try.results29 rfl (run_loadVar_row (P := Try.prog) _ _ _ _ _ _ _ BF Try.underlying26 rfl (by kernel_rfl)) rfl) rfl ⟨A1, c1, l1, A2, c2, l2, w2.heap.size, by rw [hl1, show ((Jb.due now []).length : Int) = 0 from rfl, Int.add_zero]; rfl, HM1.out, HM2.out, WF.less (by omega), QF, by omega, by have := HSr.out; rw [SF]; simpa [World.setCell] using this, UF⟩
      exact absurd hk (by omega)
  go_enter Try.func29, Try.ntmps29
  go_wp2_with fail
  refine K1.out.mono ?_
  rw [← HW0.out]
  rintro e w1 ⟨rfl, hb1⟩
  have U1 := Lib.hid (U0.out.later hb1)
  have BS1 := Lib.hid (BS.out.later hb1)
  have BN1 := Lib.hid (BN.out.later hb1)
  have BR1 := Lib.hid (BR.out.later hb1)
  have HA1 := Lib.hid (HA.out.later hb1)
  have g10 := BS1.out.at 10 _ rfl
  clear hb1 K1 HW0 U0 BS BN BR HA
  have k2 := Lib.hid fun (A9 : Option Addr) (c9 : Nat) => (copyQueue_n A9 [] 0 c9 w1 w1.heap.size (Nat.le_refl _) rfl (by omega) Wts.empty (fun _ h => by cases h) (Jb.due now []) rfl)
  go_wp2_with fail
  refine (k2.out _ _).mono ?_
  rintro e w2 ⟨A1, c1, l1, rfl, hm1, hq1, hb2⟩
  have HM1 := Lib.hid hm1
  have Q1 := Lib.hid hq1.wtsIn
  have HL1 := Lib.hid hq1.len
  have U2 := Lib.hid (U1.out.later hb2)
  have BS2 := Lib.hid (BS1.out.later hb2)
  have BN2 := Lib.hid (BN1.out.later hb2)
  have BR2 := Lib.hid (BR1.out.later hb2)
  have HA2 := Lib.hid (HA1.out.later hb2)
  have hs1 := BR1.out.lt
  have hs2 := hb2.size
  have k3 := Lib.hid fun (A9 : Option Addr) (c9 : Nat) => (copyQueue_n A9 [] 0 c9 w2 w2.heap.size (Nat.le_refl _) rfl (by omega) Wts.empty (fun _ h => by cases h) (Jb.left now []) rfl)
  clear hb2 hm1 hq1 U1 BS1 BN1 BR1 HA1 k2
  clear g10
  have g10 := BS2.out.at 10 _ rfl
  go_wp2_with fail
  refine (k3.out _ _).mono ?_
  rintro e w3 ⟨A2, c2, l2, rfl, hm2, hq2, hb3⟩
  have HM2 := Lib.hid hm2
  have Q2 := Lib.hid hq2
  have Q1' := Lib.hid (Q1.out.below hb3 (Nat.le_refl _))
  have U3 := Lib.hid (U2.out.later hb3)
  have BS3 := Lib.hid (BS2.out.later hb3)
  have BN3 := Lib.hid (BN2.out.later hb3)
  have BR3 := Lib.hid (BR2.out.later hb3)
  have hs3 := hb3.size
  clear hb3 hm2 hq2 U2 BS2 BN2 BR2 HA2 k3 Q1 g10
  have f13 := BS3.out.at 13 _ rfl
  have f10 := BS3.out.at 10 _ rfl
  have fz := BS3.out.frozen
  go_wp2_with fail
  go_loopg [38] 0 (fun gk i wr => ∃ k : Nat, gk + k = 0 ∧ i = .int .i64 k ∧ Hid (Blk wr w.heap.size 26 #[.int .i64 le, .int .i64 mo, .int .i64 nw, .bool on, .int .i64 ze, .int .i64 fi, .int .i64 hi, .int .i64 (Jb.maxSq dn (([] : List Jb.Wt))), .int .i64 sp, .int .i64 tr, .slice A2 0 c2, .int .i64 la, .int .i64 tw, .int .i64 pd]) ∧ Hid (Blk wr (w.heap.size + 1) 3 #[.int .i64 now]) ∧ Hid (Blk wr (w.heap.size + 1 + 1) 26 #[.int .i64 0, .int .i64 0, .int .i64 0, .bool false, .int .i64 0, .int .i64 0, .int .i64 0, .int .i64 0, .int .i64 0, .int .i64 0, .slice none 0 0, .int .i64 0, .int .i64 0, .int .i64 0]) ∧ Hid (WtsIn wr w1.heap.size w2.heap.size A1 l1) ∧ Hid (QOwn wr w2.heap.size A2 0 c2 l2) ∧ Hid (Bel w wr) ∧ Hid (w2.heap.size ≤ wr.heap.size))
  case atStart =>
    refine ⟨0, rfl, rfl, Lib.hid ?_, Lib.hid ?_, Lib.hid ?_, Lib.hid ?_, Lib.hid ?_, Lib.hid ?_, Lib.hid ?_⟩
    · exact (BS3.out.set_ 10 (.slice A2 0 c2)).set_ 13 (.int .i64 pd)
    · exact (BN3.out.far (by simp) _).far (by simp) _
    · exact (BR3.out.far (by simp; omega) _).far (by simp; omega) _
    · exact (Q1'.out.setCell (by simp; omega) _).setCell (by simp; omega) _
    · exact (Q2.out.setCell (by simp; omega) _).setCell (by simp; omega) _
    · exact below_set_old (below_set_old U3.out (Nat.le_refl _) _) (Nat.le_refl _) _
    · simpa [World.setCell] using hs3
  case round =>
    obtain ⟨k, hgk, rfl, BSr, BNr, BRr, W1r, Q2r, Ur, HSr⟩ := hrel
    have hi0 : (0 : Int) ≤ (k : Int) := by omega
    have hz0 := BSr.out.lt
    have fzr := BSr.out.frozen
    by_cases hk : k < 0
    rotate_left
    · obtain rfl : k = 0 := by omega
      have hi1 : (0 : Int) ≤ (0 : Int) := Int.le_refl _
      have p0 := BSr.out.at 0 _ rfl
      have p1 := BSr.out.at 1 _ rfl
      have p2 := BSr.out.at 2 _ rfl
      have p3 := BSr.out.at 3 _ rfl
      have p4 := BSr.out.at 4 _ rfl
      have p5 := BSr.out.at 5 _ rfl
      have p6 := BSr.out.at 6 _ rfl
      have p7 := BSr.out.at 7 _ rfl
      have p8 := BSr.out.at 8 _ rfl
      have p9 := BSr.out.at 9 _ rfl
      have p10 := BSr.out.at 10 _ rfl
      have p11 := BSr.out.at 11 _ rfl
      have p12 := BSr.out.at 12 _ rfl
      have p13 := BSr.out.at 13 _ rfl
      have r0 := BRr.out.at 0 _ rfl
      have r1 := BRr.out.at 1 _ rfl
      have r2 := BRr.out.at 2 _ rfl
      have r3 := BRr.out.at 3 _ rfl
      have r4 := BRr.out.at 4 _ rfl
      have r5 := BRr.out.at 5 _ rfl
      have r6 := BRr.out.at 6 _ rfl
      have r7 := BRr.out.at 7 _ rfl
      have r8 := BRr.out.at 8 _ rfl
      have r9 := BRr.out.at 9 _ rfl
      have r10 := BRr.out.at 10 _ rfl
      have r11 := BRr.out.at 11 _ rfl
      have r12 := BRr.out.at 12 _ rfl
      have r13 := BRr.out.at 13 _ rfl
      have n0 := BNr.out.at 0 _ rfl
      have rfz := BRr.out.frozen
      go_wp2_with fail
      have BF := Blk.setRow (BRr.out.far (p := ⟨w.heap.size, 2, none⟩) (by simp; omega) (.int .i64 now)) [.int .i64 le, .int .i64 mo, .int .i64 now, .bool on, .int .i64 ze, .int .i64 fi, .int .i64 hi, .int .i64 (Jb.maxSq dn []), .int .i64 sp, .int .i64 tr, .slice A2 0 c2, .int .i64 la, .int .i64 tw, .int .i64 pd] rfl
      have QF := QOwn.setRow (g := w.heap.size + 1 + 1) (by omega) [.int .i64 le, .int .i64 mo, .int .i64 now, .bool on, .int .i64 ze, .int .i64 fi, .int .i64 hi, .int .i64 (Jb.maxSq dn []), .int .i64 sp, .int .i64 tr, .slice A2 0 c2, .int .i64 la, .int .i64 tw, .int .i64 pd] _ 0 (Q2r.out.setCell (p := ⟨w.heap.size, 2, none⟩) (by simp; omega) (.int .i64 now))
      have WF := WtsIn.setRow (g := w.heap.size + 1 + 1) (by omega) [.int .i64 le, .int .i64 mo, .int .i64 now, .bool on, .int .i64 ze, .int .i64 fi, .int .i64 hi, .int .i64 (Jb.maxSq dn []), .int .i64 sp, .int .i64 tr, .slice A2 0 c2, .int .i64 la, .int .i64 tw, .int .i64 pd] _ 0 (W1r.out.setCell (p := ⟨w.heap.size, 2, none⟩) (by simp; omega) (.int .i64 now))
      have UF := below_setRow (g := w.heap.size + 1 + 1) (by omega) [.int .i64 le, .int .i64 mo, .int .i64 now, .bool on, .int .i64 ze, .int .i64 fi, .int .i64 hi, .int .i64 (Jb.maxSq dn []), .int .i64 sp, .int .i64 tr, .slice A2 0 c2, .int .i64 la, .int .i64 tw, .int .i64 pd] _ 0 (below_set_old (p := ⟨w.heap.size, 2, none⟩) Ur.out (Nat.le_refl _) (.int .i64 now))
      have SF := setRow_size (w.heap.size + 1 + 1) [.int .i64 le, .int .i64 mo, .int .i64 now, .bool on, .int .i64 ze, .int .i64 fi, .int .i64 hi, .int .i64 (Jb.maxSq dn []), .int .i64 sp, .int .i64 tr, .slice A2 0 c2, .int .i64 la, .int .i64 tw, .int .i64 pd] (wr.setCell ⟨w.heap.size, 2, none⟩ (.int .i64 now)) 0
      obtain ⟨W, hW⟩ : ∃ W, W = setRow (w.heap.size + 1 + 1) (wr.setCell ⟨w.heap.size, 2, none⟩ (.int .i64 now)) 0 [.int .i64 le, .int .i64 mo, .int .i64 now, .bool on, .int .i64 ze, .int .i64 fi, .int .i64 hi, .int .i64 (Jb.maxSq dn []), .int .i64 sp, .int .i64 tr, .slice A2 0 c2, .int .i64 la, .int .i64 tw, .int .i64 pd] := ⟨_, rfl⟩
      rw [← hW] at BF QF WF UF SF
      simp only [setRow, Nat.zero_add, Nat.reduceAdd] at hW
      rw [← hW]
      have hl2 : l2.length = 0 := Q2r.out.len
      have hl1 : l1.length = 0 := HL1.out
      rw [← hl2] at BF QF
      exact bodyPost_ret (v := .tuple #[.agg (List.toArray [.int .i64 le, .int .i64 mo, .int .i64 now, .bool on, .int .i64 ze, .int .i64 fi, .int .i64 hi, .int .i64 (Jb.maxSq dn []), .int .i64 sp, .int .i64 tr, .slice A2 l2.length c2, .int .i64 la, .int .i64 tw, .int .i64 pd]), .slice A1 0 c1]) (res_ct Try.results29 rfl (run_loadVar_row (P := Try.prog) _ _ _ _ _ _ _ BF Try.underlying26 rfl (by kernel_rfl)) rfl) rfl ⟨A1, c1, l1, A2, c2, l2, w2.heap.size, by rw [hl1, show ((Jb.due now []).length : Int) = 0 from rfl, Int.add_zero]; rfl, HM1.out, HM2.out, WF.less (by omega), QF, by omega, by have := HSr.out; rw [SF]; simpa [World.setCell] using this, UF⟩
    exact absurd hk (by omega)
end Go.Proofs.Ytnaafjdnmbajjaa
/- A look-up of a bool in a map that the call has made, at the operation; over any program. -/
namespace Go.Proofs.Ytnaafjdnmbajjaa
open Go Go.RowKit
open Go.Maps (Keyed)
set_option linter.unusedVariables false
theorem plainElem_bool_inv {H : Type} {P : Program} {e : TypeId} (he : P.underlying e = some .bool) {v : Value} {z : DataW H × List MemPlace} (h : plainElem P e v = some z) : ∃ x, v = .bool x ∧ z = (.lit (.bool x), []) := by
  unfold plainElem at h
  rw [he] at h
  cases v <;> simp at h
  case bool x => exact ⟨x, rfl, h.symm⟩
/-- 'm[k]' (without 'ok') at elements of type bool -/
theorem wpList_lookup_own_bool {H : Type} {P : Program} (w : World) {ops : Array Oper} {rest : List Oper} {o : Oper} {a : Act} {Q : Exit → Act → World → Prop}
    (hg : o.guard = none) (m x : Operand) (t : TypeId) (hop : o.op = Op.lookup t m x false)
    (k e : TypeId) (K : Keyed P k) (ht : P.underlying t = some (.map k e)) (he : P.underlying e = some .bool) (hz : (zeroValue e).run P w = .ok (.bool false) w) (b n : Nat) (D : DataW H)
    (hm : a.eval m = .map (some b)) (hown : w.ownsMap P k (plainElem P e) b n D) (key : Value) (kl : Lit) (hx : a.eval x = key) (hkey : keyOf P k key = some kl)
    (hK : ∀ c : Bool, D.atKey kl (.lit (.bool false)) = .lit (.bool c) → wpList P ops Q rest (a.put o.dst (.bool c)) w) :
    wpList P ops Q (o :: rest) a w := by
  refine wpList_plain hg fun K' hK' => ?_
  obtain ⟨v, ps, hrun, hv⟩ := hown.lookup K ht hz (plainElem_bool he false) hkey
  obtain ⟨c, rfl, hc⟩ := plainElem_bool_inv he hv
  injection hc with hc _
  unfold Oper.wp
  simp [execOp, hop, hm, hx, hrun, Result.andThen]
  exact hK' _ _ (hK c hc)
/-- the numbers that have been seen -/
def sqMap (H : Type) (l : List Int) : DataW H := l.foldl (fun D s => D.put (.int .i64 s) (.lit (.bool true))) (.map [])
theorem sqMap_snoc (H : Type) (l : List Int) (s : Int) : sqMap H (l ++ [s]) = (sqMap H l).put (.int .i64 s) (.lit (.bool true)) := by simp [sqMap, List.foldl_append]
theorem sqMap_is (H : Type) : ∀ (n : Nat) (l : List Int), l.length = n → Maps.IsMap (sqMap H l)
  | 0, l, h => by
    obtain rfl := List.eq_nil_of_length_eq_zero h
    exact Maps.isMap_empty
  | n + 1, l0, h => by
    obtain ⟨l, s, rfl⟩ : ∃ a b, l0 = a ++ [b] := ⟨l0.dropLast, l0.getLast (by intro e; rw [e] at h; simp at h), (List.dropLast_concat_getLast _).symm⟩
    rw [sqMap_snoc]
    exact (sqMap_is H n l (by simpa using h)).put _ _
theorem sqMap_at (H : Type) (s : Int) : ∀ (n : Nat) (l : List Int), l.length = n → (sqMap H l).atKey (.int .i64 s) (.lit (.bool false)) = .lit (.bool (l.any fun x => x == s))
  | 0, l, h => by
    obtain rfl := List.eq_nil_of_length_eq_zero h
    rfl
  | n + 1, l0, h => by
    obtain ⟨l, x, rfl⟩ : ∃ a b, l0 = a ++ [b] := ⟨l0.dropLast, l0.getLast (by intro e; rw [e] at h; simp at h), (List.dropLast_concat_getLast _).symm⟩
    have hl : l.length = n := by simpa using h
    rw [sqMap_snoc]
    by_cases hx : x = s
    · subst hx
      rw [Maps.atKey_put_same (k := .int .i64 x) (sqMap_is H n l hl) (by unfold WideAt.IsKeyLit; trivial)]
      simp
    · rw [Maps.atKey_put_other (fun e => hx (by injection e with _ e; exact e.symm)), sqMap_at H s n l hl]
      simp [hx]
end Go.Proofs.Ytnaafjdnmbajjaa
/- Layer 30: what a valid state is, and that Run and Put keep it; no program in sight. -/
namespace Go.Proofs.Ytnaafjdnmbajjaa.Jb
open Go.RowKit
set_option linter.unusedVariables false
def Fine (now high : Int) (w : Wt) : Prop := w.m.ok ∧ now < w.at_ ∧ w.at_ ≤ 562949953421312 ∧ w.m.sq ≤ high
theorem getD_eq {q : List Wt} {k : Nat} (h : k < q.length) : q.getD k Wt.zero = q[k] := by simp [List.getD_eq_getElem?_getD, h]
theorem okQ_iff (now high : Int) (q : List Wt) : okQ now high q ↔ q.length ≤ 200 ∧ (∀ w ∈ q, Fine now high w) ∧ q.Pairwise bef ∧ q.Pairwise (fun a b => a.m.sq ≠ b.m.sq) := by
  constructor
  · intro h
    refine ⟨h.1, fun w hw => ?_, ?_, ?_⟩
    · obtain ⟨k, hk, rfl⟩ := List.getElem_of_mem hw
      obtain ⟨a, b, c, d, _⟩ := h.2 k hk
      rw [getD_eq hk] at a b c d
      exact ⟨a, b, c, d⟩
    · refine List.pairwise_iff_getElem.2 fun i j hi hj hij => ?_
      have := h.asc i j hij hj
      rwa [getD_eq hi, getD_eq hj] at this
    · refine List.pairwise_iff_getElem.2 fun i j hi hj hij => ?_
      have := (h.2 j hj).2.2.2.2.2 i hij
      rwa [getD_eq hi, getD_eq hj] at this
  · rintro ⟨h1, h2, h3, h4⟩
    refine ⟨h1, fun k hk => ?_⟩
    obtain ⟨a, b, c, d⟩ := h2 _ (List.getElem_mem hk)
    unfold okAt
    rw [getD_eq hk]
    refine ⟨a, b, c, d, fun h0 => ?_, fun i hi => ?_⟩
    · rw [getD_eq (show k - 1 < q.length by omega)]
      exact List.pairwise_iff_getElem.1 h3 (k - 1) k (by omega) hk (by omega)
    · rw [getD_eq (show i < q.length by omega)]
      exact List.pairwise_iff_getElem.1 h4 i k (by omega) hk hi
theorem left_gt (now : Int) : ∀ q : List Wt, q.Pairwise bef → ∀ w ∈ left now q, now < w.at_
  | [], _, w, hw => by cases hw
  | a :: q, h, w, hw => by
    unfold left at hw
    rw [List.dropWhile_cons] at hw
    by_cases ha : a.at_ ≤ now
    · rw [if_pos (by simpa using ha)] at hw
      exact left_gt now q (List.pairwise_cons.1 h).2 w hw
    · rw [if_neg (by simpa using ha)] at hw
      rcases List.mem_cons.1 hw with rfl | hw
      · omega
      · have := bef_at ((List.pairwise_cons.1 h).1 w hw)
        omega
theorem left_sub (now : Int) (q : List Wt) : List.Sublist (left now q) q := List.dropWhile_sublist _
theorem due_sub (now : Int) (q : List Wt) : List.Sublist (due now q) q := List.takeWhile_sublist _
theorem maxSq_bd (hi : Int) : ∀ (l : List Wt) (d : Int), (∀ w ∈ l, w.m.sq ≤ hi) → d ≤ hi → d ≤ maxSq d l ∧ maxSq d l ≤ hi
  | [], d, _, h => ⟨Int.le_refl _, h⟩
  | a :: l, d, h, hd => by
    have h1 := h a List.mem_cons_self
    obtain ⟨e1, e2⟩ := maxSq_bd hi l (max d a.m.sq) (fun w hw => h w (List.mem_cons_of_mem _ hw)) (by omega)
    show d ≤ maxSq (max d a.m.sq) l ∧ maxSq (max d a.m.sq) l ≤ hi
    omega
theorem run0_ok (s : Jt) (now : Int) (h : s.ok) (h1 : s.now ≤ now) (h2 : now ≤ 281474976710656) (h3 : s.played + (due now s.q).length ≤ 281474976710656) : (run0 s now).ok := by
  obtain ⟨⟨a1, a2, a3, a4, a5, a6, a7⟩, hc, ⟨b1, b2, b3⟩, hr, hq⟩ := h
  obtain ⟨q1, q2, q3, q4⟩ := (okQ_iff _ _ _).1 hq
  have hm := maxSq_bd (max s.done s.high) (due now s.q) s.done (fun w hw => by have := (q2 w ((due_sub now s.q).subset hw)).2.2.2; omega) (by omega)
  have hl : (left now s.q).length ≤ s.q.length := (left_sub now s.q).length_le
  refine ⟨⟨⟨by show 0 ≤ now; omega, h2⟩, a2, a3, a4, a5, ⟨by show -1 ≤ maxSq _ _; omega, by show maxSq _ _ ≤ _; omega⟩, a7⟩, hc, ⟨b1, b2, ⟨by show 0 ≤ s.played + _; omega, h3⟩⟩, ?_, ?_⟩
  · rcases hr with hr | ⟨r1, r2, r3⟩
    · exact Or.inl hr
    · right
      have e : s.q = [] := List.eq_nil_of_length_eq_zero r1
      show (left now s.q).length = 0 ∧ s.high = -1 ∧ maxSq s.done (due now s.q) = -1
      rw [e]
      exact ⟨rfl, r2, r3⟩
  · refine (okQ_iff _ _ _).2 ⟨by show (left now s.q).length ≤ 200; omega, fun w hw => ?_, q3.sublist (left_sub now s.q), q4.sublist (left_sub now s.q)⟩
    obtain ⟨f1, f2, f3, f4⟩ := q2 w ((left_sub now s.q).subset hw)
    exact ⟨f1, left_gt now s.q q3 w hw, f3, f4⟩
theorem ins_perm (q : List Wt) (w : Wt) : List.Perm (ins q w) (w :: q) := by
  unfold ins
  have h := List.perm_middle (a := w) (l₁ := q.takeWhile fun x => decide (bef x w)) (l₂ := q.dropWhile fun x => decide (bef x w))
  rwa [List.takeWhile_append_dropWhile] at h
theorem bef_tot (a b : Wt) (h : a.m.sq ≠ b.m.sq) : bef a b ∨ bef b a := by unfold bef; omega
theorem ins_asc (w : Wt) : ∀ q : List Wt, q.Pairwise bef → (∀ x ∈ q, x.m.sq ≠ w.m.sq) → (ins q w).Pairwise bef
  | [], _, _ => by simp [ins]
  | a :: q, h, hd => by
    obtain ⟨h1, h2⟩ := List.pairwise_cons.1 h
    by_cases ha : bef a w
    · have e : ins (a :: q) w = a :: ins q w := by simp [ins, ha]
      rw [e]
      refine List.pairwise_cons.2 ⟨fun b hb => ?_, ins_asc w q h2 (fun x hx => hd x (List.mem_cons_of_mem _ hx))⟩
      have hb' := (ins_perm q w).subset hb
      rcases List.mem_cons.1 hb' with rfl | hb'
      · exact ha
      · exact h1 b hb'
    · have e : ins (a :: q) w = w :: a :: q := by simp [ins, ha]
      rw [e]
      have hwa : bef w a := (bef_tot a w (hd a List.mem_cons_self)).resolve_left ha
      refine List.pairwise_cons.2 ⟨fun b hb => ?_, h⟩
      rcases List.mem_cons.1 hb with rfl | hb
      · exact hwa
      · exact bef_trans hwa (h1 b hb)
theorem ins_len (q : List Wt) (w : Wt) : (ins q w).length = q.length + 1 := (ins_perm q w).length_eq
theorem ins_okQ (now high : Int) (q : List Wt) (w : Wt) (h : okQ now high q) (hl : q.length < 200) (hw : Fine now high w) (hd : ∀ x ∈ q, x.m.sq ≠ w.m.sq) : okQ now high (ins q w) := by
  obtain ⟨q1, q2, q3, q4⟩ := (okQ_iff _ _ _).1 h
  refine (okQ_iff _ _ _).2 ⟨by rw [ins_len]; omega, fun x hx => ?_, ins_asc w q q3 hd, ?_⟩
  · rcases List.mem_cons.1 ((ins_perm q w).subset hx) with rfl | hx
    · exact hw
    · exact q2 x hx
  · refine (ins_perm q w).symm.pairwise (List.pairwise_cons.2 ⟨fun x hx => (hd x hx).symm, q4⟩) (fun hab e => hab e.symm)
end Go.Proofs.Ytnaafjdnmbajjaa.Jb
namespace Go.Proofs.Ytnaafjdnmbajjaa.Jb
open Go.RowKit
set_option linter.unusedVariables false
theorem lastAt_bd (z now high : Int) (q : List Wt) (h : okQ now high q) (z0 : 0 ≤ z) (z1 : z ≤ 562949953421313) : z ≤ lastAt z q ∧ lastAt z q ≤ 562949953421313 := by
  unfold lastAt
  by_cases h0 : q.length = 0
  · rw [if_pos h0]; omega
  · rw [if_neg h0]
    have := (h.2 (q.length - 1) (by omega)).2.2.1
    omega
theorem spread_bd (sp d : Int) (h0 : 0 ≤ sp) (h1 : sp ≤ 72057594037927936) (d0 : 0 ≤ d) (d1 : d ≤ 2251799813685248) : 0 ≤ sp + d - (sp + 8) / 16 ∧ sp + d - (sp + 8) / 16 ≤ 72057594037927936 := by omega
theorem meas_ok (s : Jt) (m : Md) (h : s.ok) (hm : m.ok) : (meas s m).ok := by
  obtain ⟨⟨a1, a2, a3, a4, a5, a6, a7⟩, hc, hk, hr, hq⟩ := h
  obtain ⟨m1, m2, m3⟩ := hm
  obtain ⟨c1, c2, c3⟩ := hc
  have hsp : ∀ (on : Bool), 0 ≤ (if on then s.spread + max (s.now - m.ti / 8 - s.trans) (s.trans - (s.now - m.ti / 8)) - (s.spread + 8) / 16 else s.spread) ∧ (if on then s.spread + max (s.now - m.ti / 8 - s.trans) (s.trans - (s.now - m.ti / 8)) - (s.spread + 8) / 16 else s.spread) ≤ 72057594037927936 := fun on => by
    cases on
    · exact a7
    · exact spread_bd s.spread _ a7.1 a7.2 (by omega) (by omega)
  have hs := hsp s.on
  have hz := lastAt_bd (s.now + min (s.least + (if s.on then s.spread + max (s.now - m.ti / 8 - s.trans) (s.trans - (s.now - m.ti / 8)) - (s.spread + 8) / 16 else s.spread) / 4) s.most) s.now s.high s.q hq (by omega) (by omega)
  unfold meas
  refine ⟨⟨a1, ?_, ⟨by show -1125899906842624 ≤ s.now - m.ti / 8; omega, by show s.now - m.ti / 8 ≤ 1125899906842624; omega⟩, ?_, ⟨by show -1 ≤ max s.high m.sq; omega, by show max s.high m.sq ≤ 281474976710656; omega⟩, a6, hs⟩, ⟨c1, c2, c3⟩, hk, Or.inl rfl, ?_⟩
  · show -1125899906842624 ≤ (if _ then _ else s.zero) ∧ (if _ then _ else s.zero) ≤ 1125899906842624
    split
    · exact ⟨Int.le_trans (by omega) hz.1, Int.le_trans hz.2 (by omega)⟩
    · exact a2
  · show -281474976710656 ≤ (if _ then m.ti else s.first) ∧ (if _ then m.ti else s.first) ≤ 281474976710656
    split
    · exact m2
    · exact a4
  · obtain ⟨q1, q2, q3, q4⟩ := (okQ_iff _ _ _).1 hq
    refine (okQ_iff _ _ _).2 ⟨q1, fun w hw => ?_, q3, q4⟩
    obtain ⟨f1, f2, f3, f4⟩ := q2 w hw
    exact ⟨f1, f2, f3, by show w.m.sq ≤ max s.high m.sq; omega⟩
theorem meas_q (s : Jt) (m : Md) : (meas s m).q = s.q ∧ (meas s m).now = s.now ∧ (meas s m).late = s.late ∧ (meas s m).twice = s.twice ∧ (meas s m).played = s.played ∧ (meas s m).high = max s.high m.sq ∧ (meas s m).on = true ∧ (meas s m).done = s.done ∧ (meas s m).least = s.least ∧ (meas s m).most = s.most := ⟨rfl, rfl, rfl, rfl, rfl, rfl, rfl, rfl, rfl, rfl⟩
theorem cnt_ok (s : Jt) (h : s.ok) (l t p : Int) (hl : 0 ≤ l ∧ l ≤ 281474976710656) (ht : 0 ≤ t ∧ t ≤ 281474976710656) (hp : 0 ≤ p ∧ p ≤ 281474976710656) : ({ s with late := l, twice := t, played := p } : Jt).ok :=
  ⟨h.1, h.2.1, ⟨hl, ht, hp⟩, h.2.2.2.1, h.2.2.2.2⟩
theorem put0_ok (s : Jt) (m : Md) (h : s.ok) (hm : m.ok) (hl : s.late < 281474976710656) (ht : s.twice < 281474976710656) : (put0 s m).1.ok := by
  have hk := h.2.2.1
  obtain ⟨k1, k2, k3⟩ := hk
  have hM := meas_ok s m h hm
  unfold put0
  split
  · exact cnt_ok s h _ _ _ k1 ⟨by omega, by omega⟩ k3
  rename_i hany
  split
  · exact cnt_ok s h _ _ _ ⟨by omega, by omega⟩ k2 k3
  split
  · exact h
  rename_i hlen
  dsimp only
  split
  · exact cnt_ok _ hM _ _ _ ⟨by show 0 ≤ s.late + 1; omega, by show s.late + 1 ≤ _; omega⟩ k2 k3
  rename_i ha
  split
  · exact hM
  rename_i hb
  refine ⟨hM.1, hM.2.1, hM.2.2.1, Or.inl rfl, ?_⟩
  have hn : s.now ≤ 281474976710656 := h.1.1.2
  refine ins_okQ s.now (max s.high m.sq) s.q _ hM.2.2.2.2 (by omega) ⟨hm, by show s.now < ptime (meas s m) m.ti; omega, by show ptime (meas s m) m.ti ≤ 562949953421312; omega, by show m.sq ≤ max s.high m.sq; omega⟩ (fun x hx e => hany ?_)
  exact List.any_eq_true.2 ⟨x, hx, by simpa using e⟩
theorem new_ok (l m : Int) (h : cfg l m) : (new l m).1.ok := by
  unfold new
  rw [if_pos h]
  refine ⟨⟨by simp, by simp, by simp, by simp, by simp, by simp, by simp⟩, h, ⟨by simp, by simp, by simp⟩, Or.inr ⟨rfl, rfl, rfl⟩, ?_⟩
  exact ⟨by simp, fun k hk => absurd hk (by simp)⟩
end Go.Proofs.Ytnaafjdnmbajjaa.Jb
/- Layer 30: validQueue. -/
namespace Go.Proofs.Ytnaafjdnmbajjaa
open Go.RowKit
set_option linter.unusedVariables false
set_option linter.unusedSimpArgs false
attribute [local go_sem ↓] run_min_plain run_max_plain
attribute [local go_sem] setCell_drewN alloc_drewN
theorem ownsMap_below {H : Type} {P : Program} {k : TypeId} {R : Value → Option (DataW H × List MemPlace)} {w w' : World} {b n : Nat} {D : DataW H} (h : w.ownsMap P k R b n D) (hb : Below w.heap.size w w') : w'.ownsMap P k R b n D := by
  have hlt := h.lt
  obtain ⟨es, clock, h1, r⟩ := h
  exact ⟨es, clock, (hb.block b hlt).trans h1, r⟩
theorem i64_wf {z : Int} (h : I64 z) : (Lit.int .i64 z).wf = true := by
  obtain ⟨h1, h2⟩ := h
  have e1 : IntKind.i64.min = -9223372036854775808 := by decide
  have e2 : IntKind.i64.max = 9223372036854775807 := by decide
  simp [Lit.wf, e1, e2, h1, h2]
theorem zero_bool (w : World) : (zeroValue 4).run Try.prog w = .ok (.bool false) w := by kernel_rfl
theorem keyed64 : Maps.Keyed Try.prog 2 := Maps.int_keyed Try.underlying2
theorem look_bool {H : Type} {P : Program} {w : World} {k e t : TypeId} {b n : Nat} {D : DataW H} (h : w.ownsMap P k (plainElem P e) b n D) (K : Maps.Keyed P k) (ht : P.underlying t = some (.map k e)) (he : P.underlying e = some .bool) (hz : (zeroValue e).run P w = .ok (.bool false) w)
    {key : Value} {kl : Lit} (hkey : keyOf P k key = some kl) (c : Bool) (hc : D.atKey kl (.lit (.bool false)) = .lit (.bool c)) : (Instr.lookup t (.map (some b)) key false).run P w = .ok (.bool c) w := by
  obtain ⟨v, ps, hrun, hv⟩ := h.lookup K ht hz (plainElem_bool he false) hkey
  obtain ⟨c', rfl, hc'⟩ := plainElem_bool_inv he hv
  injection hc' with hc' _
  rw [hc] at hc'
  injection hc' with hc'
  injection hc' with hc'
  rw [hrun, hc']
def QTest (nw hi : Int) (a : Jb.Wt) : Prop := a.m.ok ∧ nw < a.at_ ∧ a.at_ ≤ 562949953421312 ∧ a.m.sq ≤ hi
theorem okAt_of (nw hi : Int) (q : List Jb.Wt) (k : Nat) (a : Jb.Wt) (h : q[k]? = some a) : Jb.okAt nw hi q k ↔ (a.m.ok ∧ nw < a.at_ ∧ a.at_ ≤ 562949953421312 ∧ a.m.sq ≤ hi) ∧ (((q.take k).map fun x => x.m.sq).any fun x => x == a.m.sq) = false ∧ (0 < k → Jb.bef (q.getD (k - 1) Jb.Wt.zero) a) := by
  have hk : k < q.length := (List.getElem?_eq_some_iff.1 h).1
  have e : q.getD k Jb.Wt.zero = a := by simp [List.getD_eq_getElem?_getD, h]
  unfold Jb.okAt
  rw [e]
  constructor
  · rintro ⟨h1, h2, h3, h4, h5, h6⟩
    refine ⟨⟨h1, h2, h3, h4⟩, ?_, h5⟩
    rw [List.any_eq_false]
    intro x hx
    obtain ⟨y, hy, rfl⟩ := List.mem_map.1 hx
    obtain ⟨i, hi', rfl⟩ := List.getElem_of_mem hy
    have hik : i < k := by simp at hi'; omega
    have := h6 i hik
    rw [Jb.getD_eq (by omega)] at this
    rw [List.getElem_take]
    simpa using this
  · rintro ⟨⟨h1, h2, h3, h4⟩, h5, h6⟩
    refine ⟨h1, h2, h3, h4, h6, fun i hik => ?_⟩
    rw [List.any_eq_false] at h5
    have := h5 (q.getD i Jb.Wt.zero).m.sq (List.mem_map.2 ⟨q.getD i Jb.Wt.zero, ?_, rfl⟩)
    · simpa using this
    · rw [Jb.getD_eq (by omega)]
      exact List.mem_take_iff_getElem.2 ⟨i, by omega, rfl⟩
set_option maxRecDepth 100000 in
set_option maxHeartbeats 12800000 in
theorem validQueue_any (le mo nw : Int) (on : Bool) (ze fi hi dn sp tr : Int) (A : Option Addr) (l : List TW) (n qc : Nat) (la tw pd : Int) (w : World) (hn : l.length = n) (hl : n ≤ 100000) (hA : Wts w w.heap.size A l) (hK : ∀ a ∈ l, I64 a.w.m.sq) (v : Bool) (hv : v = decide (Jb.okQ nw hi (l.map TW.w))) : Calls Try.prog 45 #[.agg #[.int .i64 le, .int .i64 mo, .int .i64 nw, .bool on, .int .i64 ze, .int .i64 fi, .int .i64 hi, .int .i64 dn, .int .i64 sp, .int .i64 tr, .slice A n qc, .int .i64 la, .int .i64 tw, .int .i64 pd]] w fun e w' => e = .returned (.bool v) ∧ Below w.heap.size w w' := by
  subst hn
  have HA := Lib.hid hA
  have HK := Lib.hid hK
  have HV := Lib.hid hv
  have hmm := @run_makeMap Try.prog
  clear hA hK hv
  by_cases h200 : l.length ≤ 200
  rotate_left
  · have hv : v = false := by rw [HV.out, decide_eq_false_iff_not]; intro h; exact h200 (by simpa using h.1)
    subst hv
    have h201 : (200 : Int) < (l.length : Int) := by omega
    go_enter Try.func45, Try.ntmps45
    go_wp2_with fail
    go_ret
    exact ⟨rfl, (Below.refl _ _).alloc (Nat.le_refl _) _⟩
  have h201 : (l.length : Int) ≤ (200 : Int) := by omega
  go_enter Try.func45, Try.ntmps45
  go_wp2_with fail
  go_loopg [14] l.length (fun gk i wr => ∃ k : Nat, gk + k = l.length ∧ i = .int .i64 k ∧ Hid (∀ j, j < k → Jb.okAt nw hi (l.map TW.w) j) ∧ Hid (wr.ownsMap Try.prog 2 (plainElem (H := Unit) Try.prog 4) (w.heap.size + 1) k (sqMap Unit (((l.map TW.w).take k).map fun x => x.m.sq))) ∧ Hid (Blk wr w.heap.size 26 #[.int .i64 le, .int .i64 mo, .int .i64 nw, .bool on, .int .i64 ze, .int .i64 fi, .int .i64 hi, .int .i64 dn, .int .i64 sp, .int .i64 tr, .slice A l.length qc, .int .i64 la, .int .i64 tw, .int .i64 pd]) ∧ Hid (Bel w wr))
  case atStart =>
    refine ⟨0, rfl, rfl, Lib.hid (fun j h => absurd h (by omega)), Lib.hid ?_, Lib.hid (Blk.push (Blk.new w _ _) _), Lib.hid (((Bel.refl w).push _).push _)⟩
    have := World.ownsMap_made (w.alloc (.cells #[.int .i64 le, .int .i64 mo, .int .i64 nw, .bool on, .int .i64 ze, .int .i64 fi, .int .i64 hi, .int .i64 dn, .int .i64 sp, .int .i64 tr, .slice A l.length qc, .int .i64 la, .int .i64 tw, .int .i64 pd] 26)) Try.prog 2 (plainElem (H := Unit) Try.prog 4)
    rw [size_alloc1] at this
    exact this
  case round =>
    obtain ⟨k, hgk, rfl, HT, HM, BS, U⟩ := hrel
    have hi0 : (0 : Int) ≤ (k : Int) := by omega
    by_cases hk : k < l.length
    rotate_left
    · obtain rfl : k = l.length := by omega
      have hi1 : (l.length : Int) ≤ (l.length : Int) := Int.le_refl _
      have hv : v = true := by rw [HV.out, decide_eq_true_iff]; exact ⟨by simpa using h200, fun j hj => HT.out j (by simpa using hj)⟩
      subst hv
      go_wp2_with fail
      go_ret
      exact ⟨rfl, U.out⟩
    have hi1 : (k : Int) < (l.length : Int) := by omega
    obtain ⟨a, ha⟩ : ∃ a, l[k]? = some a := ⟨_, List.getElem?_eq_getElem hk⟩
    obtain ⟨b, off, rfl, hbB, e0, e1, e2, e3, e4, e5⟩ := rowsW (HA.out.1.keep (fun p hp => U.out.cell hp)) ha
    have hka := HK.out a (List.mem_of_getElem? ha)
    have hm : (l.map TW.w)[k]? = some a.w := by rw [List.getElem?_map, ha]; rfl
    have HN : Hid (¬Jb.okAt nw hi (l.map TW.w) k → v = false) := Lib.hid (fun hnot => by rw [HV.out, decide_eq_false_iff_not]; intro h; exact hnot (h.2 k (by simpa using hk)))
    have HO := Lib.hid (okAt_of nw hi (l.map TW.w) k a.w hm)
    have HMM := Lib.hid hm
    obtain ⟨⟨at0, ⟨sq0, ti0, mk0, ty0, pl0⟩⟩, B0, c0⟩ := a
    simp only at e0 e1 e2 e3 e4 e5 hka HO HMM
    have hkey := Maps.keyOf_int_mk (P := Try.prog) Try.underlying2 (i64_wf hka)
    have p2 := BS.out.at 2 _ rfl
    have p6 := BS.out.at 6 _ rfl
    have p10 := BS.out.at 10 _ rfl
    have hlt := BS.out.lt
    clear ha hm hka
    obtain ⟨fv, hfv⟩ : ∃ fv, fv = decide ((0 ≤ sq0 ∧ sq0 ≤ 281474976710656) ∧ (-281474976710656 ≤ ti0 ∧ ti0 ≤ 281474976710656) ∧ pl0.length ≤ 1500) := ⟨_, rfl⟩
    have k1 := Lib.hid fun W => formed_any sq0 ti0 mk0 ty0 B0 pl0.length c0 W fv hfv
    have HF : Hid (fv = decide (Jb.Md.ok ⟨sq0, ti0, mk0, ty0, pl0⟩)) := Lib.hid hfv
    clear hfv
    cases fv
    · have hv : v = false := HN.out (fun h => by have := (HO.out.1 h).1.1; have hf := HF.out; rw [eq_comm, decide_eq_false_iff_not] at hf; exact hf this)
      subst hv
      go_wp2_with fail
      refine (k1.out _).mono ?_
      rintro e w1 ⟨rfl, hb1⟩
      have U1 := Lib.hid ((U.out.push (.cells #[.int .i64 at0, .int .i64 sq0, .int .i64 ti0, .bool mk0, .int .u8 ty0, .slice B0 pl0.length c0] 50)).later hb1)
      clear hb1
      go_wp2_with fail
      go_ret
      exact ⟨rfl, U1.out⟩
    have hW : Blk (wr.alloc (.cells #[.int .i64 at0, .int .i64 sq0, .int .i64 ti0, .bool mk0, .int .u8 ty0, .slice B0 pl0.length c0] 50)) wr.heap.size 50 #[.int .i64 at0, .int .i64 sq0, .int .i64 ti0, .bool mk0, .int .u8 ty0, .slice B0 pl0.length c0] := Blk.new wr _ _
    have BX := Lib.hid hW
    have hok : Jb.Md.ok ⟨sq0, ti0, mk0, ty0, pl0⟩ := by have hf := HF.out; rw [eq_comm, decide_eq_true_iff] at hf; exact hf
    have HOK := Lib.hid hok
    clear hW hok HF
    by_cases c1 : at0 ≤ nw
    · have hv : v = false := HN.out (fun h => by have h9 : nw < at0 := (HO.out.1 h).1.2.1; omega)
      subst hv
      go_wp2_with fail
      refine (k1.out _).mono ?_
      rintro e w1 ⟨rfl, hb1⟩
      have U1 := Lib.hid ((U.out.push (.cells #[.int .i64 at0, .int .i64 sq0, .int .i64 ti0, .bool mk0, .int .u8 ty0, .slice B0 pl0.length c0] 50)).later hb1)
      have f0 := (BX.out.later hb1).at 0 _ rfl
      have g2 := ((BS.out.push _).later hb1).at 2 _ rfl
      clear hb1
      go_wp2_with fail
      go_ret
      exact ⟨rfl, U1.out⟩
    have c1' : nw < at0 := by omega
    by_cases c2 : 562949953421312 < at0
    · have hv : v = false := HN.out (fun h => by have h9 : at0 ≤ 562949953421312 := (HO.out.1 h).1.2.2.1; omega)
      subst hv
      go_wp2_with fail
      refine (k1.out _).mono ?_
      rintro e w1 ⟨rfl, hb1⟩
      have U1 := Lib.hid ((U.out.push (.cells #[.int .i64 at0, .int .i64 sq0, .int .i64 ti0, .bool mk0, .int .u8 ty0, .slice B0 pl0.length c0] 50)).later hb1)
      have f0 := (BX.out.later hb1).at 0 _ rfl
      have g2 := ((BS.out.push _).later hb1).at 2 _ rfl
      clear hb1
      go_wp2_with fail
      go_ret
      exact ⟨rfl, U1.out⟩
    have c2' : at0 ≤ 562949953421312 := by omega
    by_cases c3 : hi < sq0
    · have hv : v = false := HN.out (fun h => by have h9 : sq0 ≤ hi := (HO.out.1 h).1.2.2.2; omega)
      subst hv
      go_wp2_with fail
      refine (k1.out _).mono ?_
      rintro e w1 ⟨rfl, hb1⟩
      have U1 := Lib.hid ((U.out.push (.cells #[.int .i64 at0, .int .i64 sq0, .int .i64 ti0, .bool mk0, .int .u8 ty0, .slice B0 pl0.length c0] 50)).later hb1)
      have f0 := (BX.out.later hb1).at 0 _ rfl
      have f1 := (BX.out.later hb1).at 1 _ rfl
      have g2 := ((BS.out.push _).later hb1).at 2 _ rfl
      have g6 := ((BS.out.push _).later hb1).at 6 _ rfl
      clear hb1
      go_wp2_with fail
      go_ret
      exact ⟨rfl, U1.out⟩
    have c3' : sq0 ≤ hi := by omega
    go_wp2_with fail
    refine (k1.out _).mono ?_
    rintro e w1 ⟨rfl, hb1⟩
    have U1 := Lib.hid ((U.out.push (.cells #[.int .i64 at0, .int .i64 sq0, .int .i64 ti0, .bool mk0, .int .u8 ty0, .slice B0 pl0.length c0] 50)).later hb1)
    have f0 := (BX.out.later hb1).at 0 _ rfl
    have f1 := (BX.out.later hb1).at 1 _ rfl
    have g2 := ((BS.out.push _).later hb1).at 2 _ rfl
    have g6 := ((BS.out.push _).later hb1).at 6 _ rfl
    have HM1 := Lib.hid (ownsMap_below (HM.out.alloc (.cells #[.int .i64 at0, .int .i64 sq0, .int .i64 ti0, .bool mk0, .int .u8 ty0, .slice B0 pl0.length c0] 50)) hb1)
    have BX1 := Lib.hid (BX.out.later hb1)
    have BS1 := Lib.hid ((BS.out.push (.cells #[.int .i64 at0, .int .i64 sq0, .int .i64 ti0, .bool mk0, .int .u8 ty0, .slice B0 pl0.length c0] 50)).later hb1)
    have hat : (sqMap Unit (((l.map TW.w).take k).map fun x => x.m.sq)).atKey (.int .i64 sq0) (.lit (.bool false)) = .lit (.bool ((((l.map TW.w).take k).map fun x => x.m.sq).any fun x => x == sq0)) := sqMap_at Unit sq0 _ _ rfl
    have HAT := Lib.hid hat
    clear hat
    have hgw : wr.heap.size < w1.heap.size := BX1.out.lt
    clear hb1 e0 e1 e2 e3 e4 e5 p2 p6
    cases hseen : ((((l.map TW.w).take k).map fun x => x.m.sq).any fun x => x == sq0)
    rotate_left
    · have hv : v = false := HN.out (fun h => by have := (HO.out.1 h).2.1; rw [hseen] at this; cases this)
      subst hv
      have HS := Lib.hid hseen
      clear hseen
      have hrun := look_bool HM1.out keyed64 Try.underlying82 Try.underlying4 (zero_bool _) hkey true (by rw [HAT.out, HS.out])
      go_wp2_with fail
      go_ret
      exact ⟨rfl, U1.out⟩
    have HS := Lib.hid hseen
    clear hseen
    have hrun := look_bool HM1.out keyed64 Try.underlying82 Try.underlying4 (zero_bool _) hkey false (by rw [HAT.out, HS.out])
    go_wp2_with (at_mapUpdate; refine wpList_mapUpdate_own _ rfl _ _ _ 82 rfl 2 4 keyed64 Try.underlying82 (plainElem (H := Unit) Try.prog 4) (w.heap.size + 1) k _ rfl HM1.out (by unfold maxLen; omega) _ _ _ rfl rfl hkey _ [] (plainElem_bool Try.underlying4 true) ?_; intro w2 hown2 hgrow2)
    simp only [Act.put]
    have hs2 := hgrow2.size
    have hmb := HM.out.lt
    have hwl := BS.out.lt
    have BX2 := Lib.hid (BX1.out.grown hgrow2 (by intro e; injection e with e; omega))
    have BS2 := Lib.hid (BS1.out.grown hgrow2 (by intro e; injection e with e; omega))
    have U2 : Hid (Bel w w2) := Lib.hid (U1.out.grown hgrow2 U1.out.size (fun g e => by injection e with e; omega))
    have HOWN2 : Hid (w2.ownsMap Try.prog 2 (plainElem (H := Unit) Try.prog 4) (w.heap.size + 1) (k + 1) (sqMap Unit (((l.map TW.w).take (k + 1)).map fun x => x.m.sq))) := Lib.hid (by
      rw [List.take_add_one, HMM.out]
      simp only [Option.toList_some, List.map_append, List.map_cons, List.map_nil]
      rw [sqMap_snoc]
      exact hown2)
    have hgb : w.heap.size < w2.heap.size := BS2.out.lt
    have hgc : wr.heap.size < w2.heap.size := BX2.out.lt
    clear hown2 hgrow2 hrun HM1 BS1 BX1 f0 f1 g2 g6
    have f0 := BX2.out.at 0 _ rfl
    have f1 := BX2.out.at 1 _ rfl
    have f2 := BX2.out.at 2 _ rfl
    have f3 := BX2.out.at 3 _ rfl
    have f4 := BX2.out.at 4 _ rfl
    have f5 := BX2.out.at 5 _ rfl
    have g10 := BS2.out.at 10 _ rfl
    by_cases hk0 : k = 0
    · have hd1 : decide (0 < k) = false := by rw [decide_eq_false_iff_not]; omega
      have hd2 : decide ((0 : Int) < (k : Int)) = false := by rw [decide_eq_false_iff_not]; omega
      have hd3 : (k : Int) ≤ 0 := by omega
      have HK0 := Lib.hid hk0
      clear hk0
      go_quiet (fail)
      go_wp2_with fail
      go_roundg (gk - 1)
      case measure => omega
      case rel =>
        have hk0 := HK0.out
        subst hk0
        refine ⟨1, by omega, by go_num, Lib.hid (fun j hj => ?_), HOWN2, Lib.hid (BS2.out.drewN _), Lib.hid (U2.out.drewN _)⟩
        obtain rfl : j = 0 := by omega
        exact HO.out.2 ⟨⟨HOK.out, c1', c2', c3'⟩, HS.out, fun h => absurd h (by omega)⟩
    obtain ⟨m, rfl⟩ : ∃ m, k = m + 1 := ⟨k - 1, by omega⟩
    clear hk0
    obtain ⟨a9, ha9⟩ : ∃ a, l[m]? = some a := ⟨_, List.getElem?_eq_getElem (by omega)⟩
    obtain ⟨b9, off9, he9, hbB9, q0, q1, q2, q3, q4, q5⟩ := rowsW (HA.out.1.keep (fun p hp => U2.out.cell hp)) ha9
    injection he9 with he9
    injection he9 with he9a he9b
    subst he9a he9b
    have hm9 : (l.map TW.w)[m]? = some a9.w := by rw [List.getElem?_map, ha9]; rfl
    have HM9 := Lib.hid hm9
    obtain ⟨⟨at9, ⟨sq9, ti9, mk9, ty9, pl9⟩⟩, B9, c9⟩ := a9
    simp only at q0 q1 q2 q3 q4 q5 HM9
    clear ha9 hm9
    obtain ⟨R, hR⟩ : ∃ R : Int, R = if at9 < at0 then -1 else if at0 < at9 then 1 else if sq9 < sq0 then -1 else if sq0 < sq9 then 1 else 0 := ⟨_, rfl⟩
    have k2 := Lib.hid fun W => order_any at9 sq9 ti9 ty9 at0 sq0 ti0 ty0 mk9 mk0 B9 B0 pl9.length c9 pl0.length c0 W
    rw [← hR] at k2
    have HR := Lib.hid hR
    clear hR
    have hw1 : IntKind.i64.wrap ((m : Int) + 1 - 1) = (m : Int) := by rw [i64_small _ (by omega) (by omega)]; omega
    have hm1 : (m : Int) < (l.length : Int) := by omega
    have hm0 : (0 : Int) ≤ (m : Int) := by omega
    have hw2 : IntKind.i64.wrap (((m + 1 : Nat) : Int) - 1) = (m : Int) := by rw [i64_small _ (by omega) (by omega)]; omega
    have hw3 : ((m + 1 : Nat) : Int) - 1 = (m : Int) := by omega
    have hw4 : IntKind.i64.wrap (m : Int) = (m : Int) := i64_small _ (by omega) (by omega)
    have hm2 : m < l.length := by omega
    have hU : Below w2.heap.size w2 w2 := Below.refl _ _
    go_region_held3 (fun w' => Below w2.heap.size w2 w' ∧ w'.cell? ⟨wr.heap.size, 0, none⟩ = some (.int .i64 at0) ∧ w'.cell? ⟨wr.heap.size, 1, none⟩ = some (.int .i64 sq0) ∧ w'.cell? ⟨wr.heap.size, 2, none⟩ = some (.int .i64 ti0) ∧ w'.cell? ⟨wr.heap.size, 3, none⟩ = some (.bool mk0) ∧ w'.cell? ⟨wr.heap.size, 4, none⟩ = some (.int .u8 ty0) ∧ w'.cell? ⟨wr.heap.size, 5, none⟩ = some (.slice B0 pl0.length c0) ∧ w'.cell? ⟨w.heap.size, 10, none⟩ = some (.slice (some ⟨b, off, none⟩) l.length qc) ∧ w'.cell? ⟨b, off + m * 6, none⟩ = some (.int .i64 at9) ∧ w'.cell? ⟨b, off + m * 6 + 1, none⟩ = some (.int .i64 sq9) ∧ w'.cell? ⟨b, off + m * 6 + 2, none⟩ = some (.int .i64 ti9) ∧ w'.cell? ⟨b, off + m * 6 + 3, none⟩ = some (.bool mk9) ∧ w'.cell? ⟨b, off + m * 6 + 4, none⟩ = some (.int .u8 ty9) ∧ w'.cell? ⟨b, off + m * 6 + 5, none⟩ = some (.slice B9 pl9.length c9))
      (first | assumption | ((try go_split_ands); refine and_dep ?_ (fun hbX => ⟨cell_old hbX f0, cell_old hbX f1, cell_old hbX f2, cell_old hbX f3, cell_old hbX f4, cell_old hbX f5, cell_old hbX g10, cell_old hbX q0, cell_old hbX q1, cell_old hbX q2, cell_old hbX q3, cell_old hbX q4, cell_old hbX q5⟩); (with_reducible repeat first | assumption | exact below_old' (by assumption) (by assumption) | refine Below.drew ?_ | refine below_new_old ?_ _)))
      (first | (go_at_call 36; refine (k2.out _).mono ?_; rintro e w' ⟨rfl, hbel⟩; have hbw : Below w2.heap.size w2 w' := below_old' hbel (by (try go_split_ands); assumption); obtain ⟨hcc, hff⟩ := bcell hbel))
    all_goals
      have UZ := Lib.hid (U2.out.later hbw)
      have HZ := Lib.hid (ownsMap_below HOWN2.out hbw)
      have BSZ := Lib.hid (BS2.out.later hbw)
      have hgd : (l.map TW.w).getD (m + 1 - 1) Jb.Wt.zero = ⟨at9, ⟨sq9, ti9, mk9, ty9, pl9⟩⟩ := by rw [Nat.add_sub_cancel]; simp [List.getD_eq_getElem?_getD, HM9.out]
      have HGD := Lib.hid hgd
      clear hgd hcc hff hbw hbel q0 q1 q2 q3 q4 q5 f0 f1 f2 f3 f4 f5 g10
      by_cases hR0 : 0 < R
      · have hv : v = false := HN.out (fun h => by
          have h9 := (HO.out.1 h).2.2 (by omega)
          rw [HGD.out] at h9
          unfold Jb.bef at h9
          simp only at h9
          have h8 := HR.out
          repeat (first | (split at h8) | omega))
        subst hv
        go_wp2_with fail
        go_ret
        exact ⟨rfl, UZ.out⟩
      · have hR1 : R ≤ 0 := by omega
        go_wp2_with fail
        go_roundg (gk - 1)
        case measure => omega
        case rel =>
          refine ⟨m + 1 + 1, by omega, by go_num, Lib.hid (fun j hj => ?_), HZ, BSZ, UZ⟩
          by_cases hj2 : j < m + 1
          · exact HT.out j hj2
          · obtain rfl : j = m + 1 := by omega
            refine HO.out.2 ⟨⟨HOK.out, c1', c2', c3'⟩, HS.out, fun _ => ?_⟩
            rw [HGD.out]
            unfold Jb.bef
            simp only
            have hne : sq9 ≠ sq0 := by
              have h7 := HS.out
              rw [List.any_eq_false] at h7
              have := h7 sq9 (List.mem_map.2 ⟨⟨at9, ⟨sq9, ti9, mk9, ty9, pl9⟩⟩, List.mem_of_getElem? (i := m) (by rw [List.getElem?_take, if_pos (by omega)]; exact HM9.out), rfl⟩)
              simpa using this
            have h8 := HR.out
            repeat (first | (split at h8) | omega)
end Go.Proofs.Ytnaafjdnmbajjaa

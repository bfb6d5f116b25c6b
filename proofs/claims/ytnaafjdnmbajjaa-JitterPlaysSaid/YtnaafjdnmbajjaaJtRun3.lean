/- Layer 30: run, where the queue is nil. -/
import Derived.Test.YtnaafjdnmbajjaaJtRun
namespace Go.Proofs.Ytnaafjdnmbajjaa
open Go.RowKit
set_option linter.unusedVariables false
set_option linter.unusedSimpArgs false
attribute [local go_sem ↓] run_min_plain run_max_plain
attribute [local go_sem] setCell_drewN alloc_drewN
set_option maxRecDepth 100000 in
set_option maxHeartbeats 12800000 in
theorem run_nil (le mo nw : Int) (on : Bool) (ze fi hi dn sp tr : Int) (qc : Nat) (la tw pd now : Int) (w : World) (hpd : -9223372036854775808 ≤ pd ∧ pd ≤ 9223372036854775000) : Calls Try.prog 29 #[.agg #[.int .i64 le, .int .i64 mo, .int .i64 nw, .bool on, .int .i64 ze, .int .i64 fi, .int .i64 hi, .int .i64 dn, .int .i64 sp, .int .i64 tr, .slice none 0 qc, .int .i64 la, .int .i64 tw, .int .i64 pd], .int .i64 now] w (RunR le mo on ze fi hi dn sp tr [] la tw pd now w) := by
  have hR : firstLate now (([] : List TW).map TW.w) = -1 := rfl
  have hA : Wts w w.heap.size none [] := Wts.empty
  obtain ⟨W0, hW0⟩ : ∃ W0, W0 = ((w.alloc (.cells #[.int .i64 le, .int .i64 mo, .int .i64 nw, .bool on, .int .i64 ze, .int .i64 fi, .int .i64 hi, .int .i64 dn, .int .i64 sp, .int .i64 tr, .slice none 0 qc, .int .i64 la, .int .i64 tw, .int .i64 pd] 26)).alloc (.cells #[.int .i64 now] 3)).alloc (.cells #[.int .i64 0, .int .i64 0, .int .i64 0, .bool false, .int .i64 0, .int .i64 0, .int .i64 0, .int .i64 0, .int .i64 0, .int .i64 0, .slice none 0 0, .int .i64 0, .int .i64 0, .int .i64 0] 26) := ⟨_, rfl⟩
  have hU0 : Bel w W0 := by rw [hW0]; exact (((Bel.refl w).push _).push _).push _
  have hB0 : Blk W0 w.heap.size 26 #[.int .i64 le, .int .i64 mo, .int .i64 nw, .bool on, .int .i64 ze, .int .i64 fi, .int .i64 hi, .int .i64 dn, .int .i64 sp, .int .i64 tr, .slice none 0 qc, .int .i64 la, .int .i64 tw, .int .i64 pd] := by rw [hW0]; exact ((Blk.new w _ _).push _).push _
  have hB1 : Blk W0 (w.heap.size + 1) 3 #[.int .i64 now] := by rw [hW0]; exact (Blk.new1 w _ _ _).push _
  have hB2 : Blk W0 (w.heap.size + 1 + 1) 26 #[.int .i64 0, .int .i64 0, .int .i64 0, .bool false, .int .i64 0, .int .i64 0, .int .i64 0, .int .i64 0, .int .i64 0, .int .i64 0, .slice none 0 0, .int .i64 0, .int .i64 0, .int .i64 0] := by rw [hW0]; have := Blk.new ((w.alloc (.cells #[.int .i64 le, .int .i64 mo, .int .i64 nw, .bool on, .int .i64 ze, .int .i64 fi, .int .i64 hi, .int .i64 dn, .int .i64 sp, .int .i64 tr, .slice none 0 qc, .int .i64 la, .int .i64 tw, .int .i64 pd] 26)).alloc (.cells #[.int .i64 now] 3)) 26 #[.int .i64 0, .int .i64 0, .int .i64 0, .bool false, .int .i64 0, .int .i64 0, .int .i64 0, .int .i64 0, .int .i64 0, .int .i64 0, .slice none 0 0, .int .i64 0, .int .i64 0, .int .i64 0]; rw [size_alloc2] at this; exact this
  have hA0 : Wts W0 W0.heap.size none [] := (hA.below hU0).more hU0.size
  have k1 := index_any none [] 0 qc (w.heap.size + 1) now W0 rfl (by omega) hA0 (hB1.at 0 _ rfl) hB1.lt
  rw [hR] at k1
  rw [hW0] at k1
  have K1 := Lib.hid k1
  have HW0 := Lib.hid hW0
  have U0 := Lib.hid hU0
  have BS := Lib.hid hB0
  have BN := Lib.hid hB1
  have BR := Lib.hid hB2
  have HA := Lib.hid hA0
  clear k1 hW0 hU0 hB0 hB1 hB2 hA0 hA hR
  go_enter Try.func29, Try.ntmps29
  go_wp2_with fail
  refine K1.out.mono ?_
  rw [← HW0.out]
  rintro e w1 ⟨rfl, hb1⟩
  have U1 := Lib.hid (U0.out.later hb1)
  have BS1 := Lib.hid (BS.out.later hb1)
  have BN1 := Lib.hid (BN.out.later hb1)
  have BR1 := Lib.hid (BR.out.later hb1)
  have HA1 := Lib.hid (HA.out.later hb1)
  have g10 := BS1.out.at 10 _ rfl
  clear hb1 K1 HW0 U0 BS BN BR HA
  have k2 := Lib.hid fun (A9 : Option Addr) (c9 : Nat) => (copyQueue_n A9 [] 0 c9 w1 w1.heap.size (Nat.le_refl _) rfl (by omega) Wts.empty (fun _ h => by cases h) (Jb.due now []) rfl)
  go_wp2_with fail
  refine (k2.out _ _).mono ?_
  rintro e w2 ⟨A1, c1, l1, rfl, hm1, hq1, hb2⟩
  have HM1 := Lib.hid hm1
  have Q1 := Lib.hid hq1.wtsIn
  have HL1 := Lib.hid hq1.len
  have HCA : Hid (l1.length ≤ c1 ∧ c1 ≤ maxLen) := Lib.hid ⟨by rw [hq1.len]; exact hq1.own.cap, Owns.capm hq1.own⟩
  have U2 := Lib.hid (U1.out.later hb2)
  have BS2 := Lib.hid (BS1.out.later hb2)
  have BN2 := Lib.hid (BN1.out.later hb2)
  have BR2 := Lib.hid (BR1.out.later hb2)
  have HA2 := Lib.hid (HA1.out.later hb2)
  have hs1 := BR1.out.lt
  have hs2 := hb2.size
  have k3 := Lib.hid fun (A9 : Option Addr) (c9 : Nat) => (copyQueue_n A9 [] 0 c9 w2 w2.heap.size (Nat.le_refl _) rfl (by omega) Wts.empty (fun _ h => by cases h) (Jb.left now []) rfl)
  clear hb2 hm1 hq1 U1 BS1 BN1 BR1 HA1 k2
  clear g10
  have g10 := BS2.out.at 10 _ rfl
  go_wp2_with fail
  refine (k3.out _ _).mono ?_
  rintro e w3 ⟨A2, c2, l2, rfl, hm2, hq2, hb3⟩
  have HM2 := Lib.hid hm2
  have Q2 := Lib.hid hq2
  have Q1' := Lib.hid (Q1.out.below hb3 (Nat.le_refl _))
  have U3 := Lib.hid (U2.out.later hb3)
  have BS3 := Lib.hid (BS2.out.later hb3)
  have BN3 := Lib.hid (BN2.out.later hb3)
  have BR3 := Lib.hid (BR2.out.later hb3)
  have hs3 := hb3.size
  clear hb3 hm2 hq2 U2 BS2 BN2 BR2 HA2 k3 Q1 g10
  have f13 := BS3.out.at 13 _ rfl
  have f10 := BS3.out.at 10 _ rfl
  have fz := BS3.out.frozen
  go_wp2_with fail
  go_loopg [38] 0 (fun gk i wr => ∃ k : Nat, gk + k = 0 ∧ i = .int .i64 k ∧ Hid (Blk wr w.heap.size 26 #[.int .i64 le, .int .i64 mo, .int .i64 nw, .bool on, .int .i64 ze, .int .i64 fi, .int .i64 hi, .int .i64 (Jb.maxSq dn (([] : List Jb.Wt))), .int .i64 sp, .int .i64 tr, .slice A2 0 c2, .int .i64 la, .int .i64 tw, .int .i64 pd]) ∧ Hid (Blk wr (w.heap.size + 1) 3 #[.int .i64 now]) ∧ Hid (Blk wr (w.heap.size + 1 + 1) 26 #[.int .i64 0, .int .i64 0, .int .i64 0, .bool false, .int .i64 0, .int .i64 0, .int .i64 0, .int .i64 0, .int .i64 0, .int .i64 0, .slice none 0 0, .int .i64 0, .int .i64 0, .int .i64 0]) ∧ Hid (WtsIn wr w1.heap.size w2.heap.size A1 l1) ∧ Hid (QOwn wr w2.heap.size A2 0 c2 l2) ∧ Hid (Bel w wr) ∧ Hid (w2.heap.size ≤ wr.heap.size))
  case atStart =>
    refine ⟨0, rfl, rfl, Lib.hid ?_, Lib.hid ?_, Lib.hid ?_, Lib.hid ?_, Lib.hid ?_, Lib.hid ?_, Lib.hid ?_⟩
    · exact (BS3.out.set_ 10 (.slice A2 0 c2)).set_ 13 (.int .i64 pd)
    · exact (BN3.out.far (by simp) _).far (by simp) _
    · exact (BR3.out.far (by simp; omega) _).far (by simp; omega) _
    · exact (Q1'.out.setCell (by simp; omega) _).setCell (by simp; omega) _
    · exact (Q2.out.setCell (by simp; omega) _).setCell (by simp; omega) _
    · exact below_set_old (below_set_old U3.out (Nat.le_refl _) _) (Nat.le_refl _) _
    · simpa [World.setCell] using hs3
  case round =>
    obtain ⟨k, hgk, rfl, BSr, BNr, BRr, W1r, Q2r, Ur, HSr⟩ := hrel
    have hi0 : (0 : Int) ≤ (k : Int) := by omega
    have hz0 := BSr.out.lt
    have fzr := BSr.out.frozen
    by_cases hk : k < 0
    rotate_left
    · obtain rfl : k = 0 := by omega
      have hi1 : (0 : Int) ≤ (0 : Int) := Int.le_refl _
      have p0 := BSr.out.at 0 _ rfl
      have p1 := BSr.out.at 1 _ rfl
      have p2 := BSr.out.at 2 _ rfl
      have p3 := BSr.out.at 3 _ rfl
      have p4 := BSr.out.at 4 _ rfl
      have p5 := BSr.out.at 5 _ rfl
      have p6 := BSr.out.at 6 _ rfl
      have p7 := BSr.out.at 7 _ rfl
      have p8 := BSr.out.at 8 _ rfl
      have p9 := BSr.out.at 9 _ rfl
      have p10 := BSr.out.at 10 _ rfl
      have p11 := BSr.out.at 11 _ rfl
      have p12 := BSr.out.at 12 _ rfl
      have p13 := BSr.out.at 13 _ rfl
      have r0 := BRr.out.at 0 _ rfl
      have r1 := BRr.out.at 1 _ rfl
      have r2 := BRr.out.at 2 _ rfl
      have r3 := BRr.out.at 3 _ rfl
      have r4 := BRr.out.at 4 _ rfl
      have r5 := BRr.out.at 5 _ rfl
      have r6 := BRr.out.at 6 _ rfl
      have r7 := BRr.out.at 7 _ rfl
      have r8 := BRr.out.at 8 _ rfl
      have r9 := BRr.out.at 9 _ rfl
      have r10 := BRr.out.at 10 _ rfl
      have r11 := BRr.out.at 11 _ rfl
      have r12 := BRr.out.at 12 _ rfl
      have r13 := BRr.out.at 13 _ rfl
      have n0 := BNr.out.at 0 _ rfl
      have rfz := BRr.out.frozen
      go_wp2_with fail
      have BF := Blk.setRow (BRr.out.far (p := ⟨w.heap.size, 2, none⟩) (by simp; omega) (.int .i64 now)) [.int .i64 le, .int .i64 mo, .int .i64 now, .bool on, .int .i64 ze, .int .i64 fi, .int .i64 hi, .int .i64 (Jb.maxSq dn []), .int .i64 sp, .int .i64 tr, .slice A2 0 c2, .int .i64 la, .int .i64 tw, .int .i64 pd] rfl
      have QF := QOwn.setRow (g := w.heap.size + 1 + 1) (by omega) [.int .i64 le, .int .i64 mo, .int .i64 now, .bool on, .int .i64 ze, .int .i64 fi, .int .i64 hi, .int .i64 (Jb.maxSq dn []), .int .i64 sp, .int .i64 tr, .slice A2 0 c2, .int .i64 la, .int .i64 tw, .int .i64 pd] _ 0 (Q2r.out.setCell (p := ⟨w.heap.size, 2, none⟩) (by simp; omega) (.int .i64 now))
      have WF := WtsIn.setRow (g := w.heap.size + 1 + 1) (by omega) [.int .i64 le, .int .i64 mo, .int .i64 now, .bool on, .int .i64 ze, .int .i64 fi, .int .i64 hi, .int .i64 (Jb.maxSq dn []), .int .i64 sp, .int .i64 tr, .slice A2 0 c2, .int .i64 la, .int .i64 tw, .int .i64 pd] _ 0 (W1r.out.setCell (p := ⟨w.heap.size, 2, none⟩) (by simp; omega) (.int .i64 now))
      have UF := below_setRow (g := w.heap.size + 1 + 1) (by omega) [.int .i64 le, .int .i64 mo, .int .i64 now, .bool on, .int .i64 ze, .int .i64 fi, .int .i64 hi, .int .i64 (Jb.maxSq dn []), .int .i64 sp, .int .i64 tr, .slice A2 0 c2, .int .i64 la, .int .i64 tw, .int .i64 pd] _ 0 (below_set_old (p := ⟨w.heap.size, 2, none⟩) Ur.out (Nat.le_refl _) (.int .i64 now))
      have SF := setRow_size (w.heap.size + 1 + 1) [.int .i64 le, .int .i64 mo, .int .i64 now, .bool on, .int .i64 ze, .int .i64 fi, .int .i64 hi, .int .i64 (Jb.maxSq dn []), .int .i64 sp, .int .i64 tr, .slice A2 0 c2, .int .i64 la, .int .i64 tw, .int .i64 pd] (wr.setCell ⟨w.heap.size, 2, none⟩ (.int .i64 now)) 0
      obtain ⟨W, hW⟩ : ∃ W, W = setRow (w.heap.size + 1 + 1) (wr.setCell ⟨w.heap.size, 2, none⟩ (.int .i64 now)) 0 [.int .i64 le, .int .i64 mo, .int .i64 now, .bool on, .int .i64 ze, .int .i64 fi, .int .i64 hi, .int .i64 (Jb.maxSq dn []), .int .i64 sp, .int .i64 tr, .slice A2 0 c2, .int .i64 la, .int .i64 tw, .int .i64 pd] := ⟨_, rfl⟩
      rw [← hW] at BF QF WF UF SF
      simp only [setRow, Nat.zero_add, Nat.reduceAdd] at hW
      rw [← hW]
      have hl2 : l2.length = 0 := Q2r.out.len
      have hl1 : l1.length = 0 := HL1.out
      rw [← hl2] at BF QF
      exact bodyPost_ret (v := .tuple #[.agg (List.toArray [.int .i64 le, .int .i64 mo, .int .i64 now, .bool on, .int .i64 ze, .int .i64 fi, .int .i64 hi, .int .i64 (Jb.maxSq dn []), .int .i64 sp, .int .i64 tr, .slice A2 l2.length c2, .int .i64 la, .int .i64 tw, .int .i64 pd]), .slice A1 0 c1]) (res_ct Try.results29 rfl (run_loadVar_row (P := Try.prog) _ _ _ _ _ _ _ BF Try.underlying26 rfl (by kernel_rfl)) rfl) rfl ⟨A1, c1, l1, A2, c2, l2, w2.heap.size, by rw [hl1, show ((Jb.due now []).length : Int) = 0 from rfl, Int.add_zero]; rfl, HM1.out, HM2.out, WF.less (by omega), QF, by omega, by have := HSr.out; rw [SF]; simpa [World.setCell] using this, HCA.out, UF⟩
    exact absurd hk (by omega)
set_option maxRecDepth 100000 in
set_option maxHeartbeats 12800000 in
theorem run_nowhere (le mo nw : Int) (on : Bool) (ze fi hi dn sp tr : Int) (a : Addr) (qc : Nat) (la tw pd now : Int) (w : World) (hcm : qc ≤ maxLen) (hpd : -9223372036854775808 ≤ pd ∧ pd ≤ 9223372036854775000) : Calls Try.prog 29 #[.agg #[.int .i64 le, .int .i64 mo, .int .i64 nw, .bool on, .int .i64 ze, .int .i64 fi, .int .i64 hi, .int .i64 dn, .int .i64 sp, .int .i64 tr, .slice (some a) 0 qc, .int .i64 la, .int .i64 tw, .int .i64 pd], .int .i64 now] w (RunR le mo on ze fi hi dn sp tr [] la tw pd now w) := by
  have hR : firstLate now (([] : List TW).map TW.w) = -1 := rfl
  have hA : Wts w w.heap.size (some a) [] := Wts.empty
  obtain ⟨W0, hW0⟩ : ∃ W0, W0 = ((w.alloc (.cells #[.int .i64 le, .int .i64 mo, .int .i64 nw, .bool on, .int .i64 ze, .int .i64 fi, .int .i64 hi, .int .i64 dn, .int .i64 sp, .int .i64 tr, .slice (some a) 0 qc, .int .i64 la, .int .i64 tw, .int .i64 pd] 26)).alloc (.cells #[.int .i64 now] 3)).alloc (.cells #[.int .i64 0, .int .i64 0, .int .i64 0, .bool false, .int .i64 0, .int .i64 0, .int .i64 0, .int .i64 0, .int .i64 0, .int .i64 0, .slice none 0 0, .int .i64 0, .int .i64 0, .int .i64 0] 26) := ⟨_, rfl⟩
  have hU0 : Bel w W0 := by rw [hW0]; exact (((Bel.refl w).push _).push _).push _
  have hB0 : Blk W0 w.heap.size 26 #[.int .i64 le, .int .i64 mo, .int .i64 nw, .bool on, .int .i64 ze, .int .i64 fi, .int .i64 hi, .int .i64 dn, .int .i64 sp, .int .i64 tr, .slice (some a) 0 qc, .int .i64 la, .int .i64 tw, .int .i64 pd] := by rw [hW0]; exact ((Blk.new w _ _).push _).push _
  have hB1 : Blk W0 (w.heap.size + 1) 3 #[.int .i64 now] := by rw [hW0]; exact (Blk.new1 w _ _ _).push _
  have hB2 : Blk W0 (w.heap.size + 1 + 1) 26 #[.int .i64 0, .int .i64 0, .int .i64 0, .bool false, .int .i64 0, .int .i64 0, .int .i64 0, .int .i64 0, .int .i64 0, .int .i64 0, .slice none 0 0, .int .i64 0, .int .i64 0, .int .i64 0] := by rw [hW0]; have := Blk.new ((w.alloc (.cells #[.int .i64 le, .int .i64 mo, .int .i64 nw, .bool on, .int .i64 ze, .int .i64 fi, .int .i64 hi, .int .i64 dn, .int .i64 sp, .int .i64 tr, .slice (some a) 0 qc, .int .i64 la, .int .i64 tw, .int .i64 pd] 26)).alloc (.cells #[.int .i64 now] 3)) 26 #[.int .i64 0, .int .i64 0, .int .i64 0, .bool false, .int .i64 0, .int .i64 0, .int .i64 0, .int .i64 0, .int .i64 0, .int .i64 0, .slice none 0 0, .int .i64 0, .int .i64 0, .int .i64 0]; rw [size_alloc2] at this; exact this
  have hA0 : Wts W0 W0.heap.size (some a) [] := (hA.below hU0).more hU0.size
  have k1 := index_any (some a) [] 0 qc (w.heap.size + 1) now W0 rfl (by omega) hA0 (hB1.at 0 _ rfl) hB1.lt
  rw [hR] at k1
  rw [hW0] at k1
  have K1 := Lib.hid k1
  have HW0 := Lib.hid hW0
  have U0 := Lib.hid hU0
  have BS := Lib.hid hB0
  have BN := Lib.hid hB1
  have BR := Lib.hid hB2
  have HA := Lib.hid hA0
  clear k1 hW0 hU0 hB0 hB1 hB2 hA0 hA hR
  unfold maxLen at hcm
  have h00 : (0 : Int) ≤ (qc : Int) := by omega
  by_cases hq : qc = 0
  · subst hq
    go_enter Try.func29, Try.ntmps29
    go_wp2_with fail
    refine K1.out.mono ?_
    rw [← HW0.out]
    rintro e w1 ⟨rfl, hb1⟩
    have U1 := Lib.hid (U0.out.later hb1)
    have BS1 := Lib.hid (BS.out.later hb1)
    have BN1 := Lib.hid (BN.out.later hb1)
    have BR1 := Lib.hid (BR.out.later hb1)
    have HA1 := Lib.hid (HA.out.later hb1)
    have g10 := BS1.out.at 10 _ rfl
    clear hb1 K1 HW0 U0 BS BN BR HA
    have k2 := Lib.hid fun (A9 : Option Addr) (c9 : Nat) => (copyQueue_n A9 [] 0 c9 w1 w1.heap.size (Nat.le_refl _) rfl (by omega) Wts.empty (fun _ h => by cases h) (Jb.due now []) rfl)
    go_wp2_with fail
    refine (k2.out _ _).mono ?_
    rintro e w2 ⟨A1, c1, l1, rfl, hm1, hq1, hb2⟩
    have HM1 := Lib.hid hm1
    have Q1 := Lib.hid hq1.wtsIn
    have HL1 := Lib.hid hq1.len
    have HCA : Hid (l1.length ≤ c1 ∧ c1 ≤ maxLen) := Lib.hid ⟨by rw [hq1.len]; exact hq1.own.cap, Owns.capm hq1.own⟩
    have U2 := Lib.hid (U1.out.later hb2)
    have BS2 := Lib.hid (BS1.out.later hb2)
    have BN2 := Lib.hid (BN1.out.later hb2)
    have BR2 := Lib.hid (BR1.out.later hb2)
    have HA2 := Lib.hid (HA1.out.later hb2)
    have hs1 := BR1.out.lt
    have hs2 := hb2.size
    have k3 := Lib.hid fun (A9 : Option Addr) (c9 : Nat) => (copyQueue_n A9 [] 0 c9 w2 w2.heap.size (Nat.le_refl _) rfl (by omega) Wts.empty (fun _ h => by cases h) (Jb.left now []) rfl)
    clear hb2 hm1 hq1 U1 BS1 BN1 BR1 HA1 k2
    clear g10
    have g10 := BS2.out.at 10 _ rfl
    go_wp2_with fail
    refine (k3.out _ _).mono ?_
    rintro e w3 ⟨A2, c2, l2, rfl, hm2, hq2, hb3⟩
    have HM2 := Lib.hid hm2
    have Q2 := Lib.hid hq2
    have Q1' := Lib.hid (Q1.out.below hb3 (Nat.le_refl _))
    have U3 := Lib.hid (U2.out.later hb3)
    have BS3 := Lib.hid (BS2.out.later hb3)
    have BN3 := Lib.hid (BN2.out.later hb3)
    have BR3 := Lib.hid (BR2.out.later hb3)
    have hs3 := hb3.size
    clear hb3 hm2 hq2 U2 BS2 BN2 BR2 HA2 k3 Q1 g10
    have f13 := BS3.out.at 13 _ rfl
    have f10 := BS3.out.at 10 _ rfl
    have fz := BS3.out.frozen
    go_wp2_with fail
    go_loopg [38] 0 (fun gk i wr => ∃ k : Nat, gk + k = 0 ∧ i = .int .i64 k ∧ Hid (Blk wr w.heap.size 26 #[.int .i64 le, .int .i64 mo, .int .i64 nw, .bool on, .int .i64 ze, .int .i64 fi, .int .i64 hi, .int .i64 (Jb.maxSq dn (([] : List Jb.Wt))), .int .i64 sp, .int .i64 tr, .slice A2 0 c2, .int .i64 la, .int .i64 tw, .int .i64 pd]) ∧ Hid (Blk wr (w.heap.size + 1) 3 #[.int .i64 now]) ∧ Hid (Blk wr (w.heap.size + 1 + 1) 26 #[.int .i64 0, .int .i64 0, .int .i64 0, .bool false, .int .i64 0, .int .i64 0, .int .i64 0, .int .i64 0, .int .i64 0, .int .i64 0, .slice none 0 0, .int .i64 0, .int .i64 0, .int .i64 0]) ∧ Hid (WtsIn wr w1.heap.size w2.heap.size A1 l1) ∧ Hid (QOwn wr w2.heap.size A2 0 c2 l2) ∧ Hid (Bel w wr) ∧ Hid (w2.heap.size ≤ wr.heap.size))
    case atStart =>
      refine ⟨0, rfl, rfl, Lib.hid ?_, Lib.hid ?_, Lib.hid ?_, Lib.hid ?_, Lib.hid ?_, Lib.hid ?_, Lib.hid ?_⟩
      · exact (BS3.out.set_ 10 (.slice A2 0 c2)).set_ 13 (.int .i64 pd)
      · exact (BN3.out.far (by simp) _).far (by simp) _
      · exact (BR3.out.far (by simp; omega) _).far (by simp; omega) _
      · exact (Q1'.out.setCell (by simp; omega) _).setCell (by simp; omega) _
      · exact (Q2.out.setCell (by simp; omega) _).setCell (by simp; omega) _
      · exact below_set_old (below_set_old U3.out (Nat.le_refl _) _) (Nat.le_refl _) _
      · simpa [World.setCell] using hs3
    case round =>
      obtain ⟨k, hgk, rfl, BSr, BNr, BRr, W1r, Q2r, Ur, HSr⟩ := hrel
      have hi0 : (0 : Int) ≤ (k : Int) := by omega
      have hz0 := BSr.out.lt
      have fzr := BSr.out.frozen
      by_cases hk : k < 0
      rotate_left
      · obtain rfl : k = 0 := by omega
        have hi1 : (0 : Int) ≤ (0 : Int) := Int.le_refl _
        have p0 := BSr.out.at 0 _ rfl
        have p1 := BSr.out.at 1 _ rfl
        have p2 := BSr.out.at 2 _ rfl
        have p3 := BSr.out.at 3 _ rfl
        have p4 := BSr.out.at 4 _ rfl
        have p5 := BSr.out.at 5 _ rfl
        have p6 := BSr.out.at 6 _ rfl
        have p7 := BSr.out.at 7 _ rfl
        have p8 := BSr.out.at 8 _ rfl
        have p9 := BSr.out.at 9 _ rfl
        have p10 := BSr.out.at 10 _ rfl
        have p11 := BSr.out.at 11 _ rfl
        have p12 := BSr.out.at 12 _ rfl
        have p13 := BSr.out.at 13 _ rfl
        have r0 := BRr.out.at 0 _ rfl
        have r1 := BRr.out.at 1 _ rfl
        have r2 := BRr.out.at 2 _ rfl
        have r3 := BRr.out.at 3 _ rfl
        have r4 := BRr.out.at 4 _ rfl
        have r5 := BRr.out.at 5 _ rfl
        have r6 := BRr.out.at 6 _ rfl
        have r7 := BRr.out.at 7 _ rfl
        have r8 := BRr.out.at 8 _ rfl
        have r9 := BRr.out.at 9 _ rfl
        have r10 := BRr.out.at 10 _ rfl
        have r11 := BRr.out.at 11 _ rfl
        have r12 := BRr.out.at 12 _ rfl
        have r13 := BRr.out.at 13 _ rfl
        have n0 := BNr.out.at 0 _ rfl
        have rfz := BRr.out.frozen
        go_wp2_with fail
        have BF := Blk.setRow (BRr.out.far (p := ⟨w.heap.size, 2, none⟩) (by simp; omega) (.int .i64 now)) [.int .i64 le, .int .i64 mo, .int .i64 now, .bool on, .int .i64 ze, .int .i64 fi, .int .i64 hi, .int .i64 (Jb.maxSq dn []), .int .i64 sp, .int .i64 tr, .slice A2 0 c2, .int .i64 la, .int .i64 tw, .int .i64 pd] rfl
        have QF := QOwn.setRow (g := w.heap.size + 1 + 1) (by omega) [.int .i64 le, .int .i64 mo, .int .i64 now, .bool on, .int .i64 ze, .int .i64 fi, .int .i64 hi, .int .i64 (Jb.maxSq dn []), .int .i64 sp, .int .i64 tr, .slice A2 0 c2, .int .i64 la, .int .i64 tw, .int .i64 pd] _ 0 (Q2r.out.setCell (p := ⟨w.heap.size, 2, none⟩) (by simp; omega) (.int .i64 now))
        have WF := WtsIn.setRow (g := w.heap.size + 1 + 1) (by omega) [.int .i64 le, .int .i64 mo, .int .i64 now, .bool on, .int .i64 ze, .int .i64 fi, .int .i64 hi, .int .i64 (Jb.maxSq dn []), .int .i64 sp, .int .i64 tr, .slice A2 0 c2, .int .i64 la, .int .i64 tw, .int .i64 pd] _ 0 (W1r.out.setCell (p := ⟨w.heap.size, 2, none⟩) (by simp; omega) (.int .i64 now))
        have UF := below_setRow (g := w.heap.size + 1 + 1) (by omega) [.int .i64 le, .int .i64 mo, .int .i64 now, .bool on, .int .i64 ze, .int .i64 fi, .int .i64 hi, .int .i64 (Jb.maxSq dn []), .int .i64 sp, .int .i64 tr, .slice A2 0 c2, .int .i64 la, .int .i64 tw, .int .i64 pd] _ 0 (below_set_old (p := ⟨w.heap.size, 2, none⟩) Ur.out (Nat.le_refl _) (.int .i64 now))
        have SF := setRow_size (w.heap.size + 1 + 1) [.int .i64 le, .int .i64 mo, .int .i64 now, .bool on, .int .i64 ze, .int .i64 fi, .int .i64 hi, .int .i64 (Jb.maxSq dn []), .int .i64 sp, .int .i64 tr, .slice A2 0 c2, .int .i64 la, .int .i64 tw, .int .i64 pd] (wr.setCell ⟨w.heap.size, 2, none⟩ (.int .i64 now)) 0
        obtain ⟨W, hW⟩ : ∃ W, W = setRow (w.heap.size + 1 + 1) (wr.setCell ⟨w.heap.size, 2, none⟩ (.int .i64 now)) 0 [.int .i64 le, .int .i64 mo, .int .i64 now, .bool on, .int .i64 ze, .int .i64 fi, .int .i64 hi, .int .i64 (Jb.maxSq dn []), .int .i64 sp, .int .i64 tr, .slice A2 0 c2, .int .i64 la, .int .i64 tw, .int .i64 pd] := ⟨_, rfl⟩
        rw [← hW] at BF QF WF UF SF
        simp only [setRow, Nat.zero_add, Nat.reduceAdd] at hW
        rw [← hW]
        have hl2 : l2.length = 0 := Q2r.out.len
        have hl1 : l1.length = 0 := HL1.out
        rw [← hl2] at BF QF
        exact bodyPost_ret (v := .tuple #[.agg (List.toArray [.int .i64 le, .int .i64 mo, .int .i64 now, .bool on, .int .i64 ze, .int .i64 fi, .int .i64 hi, .int .i64 (Jb.maxSq dn []), .int .i64 sp, .int .i64 tr, .slice A2 l2.length c2, .int .i64 la, .int .i64 tw, .int .i64 pd]), .slice A1 0 c1]) (res_ct Try.results29 rfl (run_loadVar_row (P := Try.prog) _ _ _ _ _ _ _ BF Try.underlying26 rfl (by kernel_rfl)) rfl) rfl ⟨A1, c1, l1, A2, c2, l2, w2.heap.size, by rw [hl1, show ((Jb.due now []).length : Int) = 0 from rfl, Int.add_zero]; rfl, HM1.out, HM2.out, WF.less (by omega), QF, by omega, by have := HSr.out; rw [SF]; simpa [World.setCell] using this, HCA.out, UF⟩
      exact absurd hk (by omega)
  go_enter Try.func29, Try.ntmps29
  go_wp2_with fail
  refine K1.out.mono ?_
  rw [← HW0.out]
  rintro e w1 ⟨rfl, hb1⟩
  have U1 := Lib.hid (U0.out.later hb1)
  have BS1 := Lib.hid (BS.out.later hb1)
  have BN1 := Lib.hid (BN.out.later hb1)
  have BR1 := Lib.hid (BR.out.later hb1)
  have HA1 := Lib.hid (HA.out.later hb1)
  have g10 := BS1.out.at 10 _ rfl
  clear hb1 K1 HW0 U0 BS BN BR HA
  have k2 := Lib.hid fun (A9 : Option Addr) (c9 : Nat) => (copyQueue_n A9 [] 0 c9 w1 w1.heap.size (Nat.le_refl _) rfl (by omega) Wts.empty (fun _ h => by cases h) (Jb.due now []) rfl)
  go_wp2_with fail
  refine (k2.out _ _).mono ?_
  rintro e w2 ⟨A1, c1, l1, rfl, hm1, hq1, hb2⟩
  have HM1 := Lib.hid hm1
  have Q1 := Lib.hid hq1.wtsIn
  have HL1 := Lib.hid hq1.len
  have HCA : Hid (l1.length ≤ c1 ∧ c1 ≤ maxLen) := Lib.hid ⟨by rw [hq1.len]; exact hq1.own.cap, Owns.capm hq1.own⟩
  have U2 := Lib.hid (U1.out.later hb2)
  have BS2 := Lib.hid (BS1.out.later hb2)
  have BN2 := Lib.hid (BN1.out.later hb2)
  have BR2 := Lib.hid (BR1.out.later hb2)
  have HA2 := Lib.hid (HA1.out.later hb2)
  have hs1 := BR1.out.lt
  have hs2 := hb2.size
  have k3 := Lib.hid fun (A9 : Option Addr) (c9 : Nat) => (copyQueue_n A9 [] 0 c9 w2 w2.heap.size (Nat.le_refl _) rfl (by omega) Wts.empty (fun _ h => by cases h) (Jb.left now []) rfl)
  clear hb2 hm1 hq1 U1 BS1 BN1 BR1 HA1 k2
  clear g10
  have g10 := BS2.out.at 10 _ rfl
  go_wp2_with fail
  refine (k3.out _ _).mono ?_
  rintro e w3 ⟨A2, c2, l2, rfl, hm2, hq2, hb3⟩
  have HM2 := Lib.hid hm2
  have Q2 := Lib.hid hq2
  have Q1' := Lib.hid (Q1.out.below hb3 (Nat.le_refl _))
  have U3 := Lib.hid (U2.out.later hb3)
  have BS3 := Lib.hid (BS2.out.later hb3)
  have BN3 := Lib.hid (BN2.out.later hb3)
  have BR3 := Lib.hid (BR2.out.later hb3)
  have hs3 := hb3.size
  clear hb3 hm2 hq2 U2 BS2 BN2 BR2 HA2 k3 Q1 g10
  have f13 := BS3.out.at 13 _ rfl
  have f10 := BS3.out.at 10 _ rfl
  have fz := BS3.out.frozen
  go_wp2_with fail
  go_loopg [38] 0 (fun gk i wr => ∃ k : Nat, gk + k = 0 ∧ i = .int .i64 k ∧ Hid (Blk wr w.heap.size 26 #[.int .i64 le, .int .i64 mo, .int .i64 nw, .bool on, .int .i64 ze, .int .i64 fi, .int .i64 hi, .int .i64 (Jb.maxSq dn (([] : List Jb.Wt))), .int .i64 sp, .int .i64 tr, .slice A2 0 c2, .int .i64 la, .int .i64 tw, .int .i64 pd]) ∧ Hid (Blk wr (w.heap.size + 1) 3 #[.int .i64 now]) ∧ Hid (Blk wr (w.heap.size + 1 + 1) 26 #[.int .i64 0, .int .i64 0, .int .i64 0, .bool false, .int .i64 0, .int .i64 0, .int .i64 0, .int .i64 0, .int .i64 0, .int .i64 0, .slice none 0 0, .int .i64 0, .int .i64 0, .int .i64 0]) ∧ Hid (WtsIn wr w1.heap.size w2.heap.size A1 l1) ∧ Hid (QOwn wr w2.heap.size A2 0 c2 l2) ∧ Hid (Bel w wr) ∧ Hid (w2.heap.size ≤ wr.heap.size))
  case atStart =>
    refine ⟨0, rfl, rfl, Lib.hid ?_, Lib.hid ?_, Lib.hid ?_, Lib.hid ?_, Lib.hid ?_, Lib.hid ?_, Lib.hid ?_⟩
    · exact (BS3.out.set_ 10 (.slice A2 0 c2)).set_ 13 (.int .i64 pd)
    · exact (BN3.out.far (by simp) _).far (by simp) _
    · exact (BR3.out.far (by simp; omega) _).far (by simp; omega) _
    · exact (Q1'.out.setCell (by simp; omega) _).setCell (by simp; omega) _
    · exact (Q2.out.setCell (by simp; omega) _).setCell (by simp; omega) _
    · exact below_set_old (below_set_old U3.out (Nat.le_refl _) _) (Nat.le_refl _) _
    · simpa [World.setCell] using hs3
  case round =>
    obtain ⟨k, hgk, rfl, BSr, BNr, BRr, W1r, Q2r, Ur, HSr⟩ := hrel
    have hi0 : (0 : Int) ≤ (k : Int) := by omega
    have hz0 := BSr.out.lt
    have fzr := BSr.out.frozen
    by_cases hk : k < 0
    rotate_left
    · obtain rfl : k = 0 := by omega
      have hi1 : (0 : Int) ≤ (0 : Int) := Int.le_refl _
      have p0 := BSr.out.at 0 _ rfl
      have p1 := BSr.out.at 1 _ rfl
      have p2 := BSr.out.at 2 _ rfl
      have p3 := BSr.out.at 3 _ rfl
      have p4 := BSr.out.at 4 _ rfl
      have p5 := BSr.out.at 5 _ rfl
      have p6 := BSr.out.at 6 _ rfl
      have p7 := BSr.out.at 7 _ rfl
      have p8 := BSr.out.at 8 _ rfl
      have p9 := BSr.out.at 9 _ rfl
      have p10 := BSr.out.at 10 _ rfl
      have p11 := BSr.out.at 11 _ rfl
      have p12 := BSr.out.at 12 _ rfl
      have p13 := BSr.out.at 13 _ rfl
      have r0 := BRr.out.at 0 _ rfl
      have r1 := BRr.out.at 1 _ rfl
      have r2 := BRr.out.at 2 _ rfl
      have r3 := BRr.out.at 3 _ rfl
      have r4 := BRr.out.at 4 _ rfl
      have r5 := BRr.out.at 5 _ rfl
      have r6 := BRr.out.at 6 _ rfl
      have r7 := BRr.out.at 7 _ rfl
      have r8 := BRr.out.at 8 _ rfl
      have r9 := BRr.out.at 9 _ rfl
      have r10 := BRr.out.at 10 _ rfl
      have r11 := BRr.out.at 11 _ rfl
      have r12 := BRr.out.at 12 _ rfl
      have r13 := BRr.out.at 13 _ rfl
      have n0 := BNr.out.at 0 _ rfl
      have rfz := BRr.out.frozen
      go_wp2_with fail
      have BF := Blk.setRow (BRr.out.far (p := ⟨w.heap.size, 2, none⟩) (by simp; omega) (.int .i64 now)) [.int .i64 le, .int .i64 mo, .int .i64 now, .bool on, .int .i64 ze, .int .i64 fi, .int .i64 hi, .int .i64 (Jb.maxSq dn []), .int .i64 sp, .int .i64 tr, .slice A2 0 c2, .int .i64 la, .int .i64 tw, .int .i64 pd] rfl
      have QF := QOwn.setRow (g := w.heap.size + 1 + 1) (by omega) [.int .i64 le, .int .i64 mo, .int .i64 now, .bool on, .int .i64 ze, .int .i64 fi, .int .i64 hi, .int .i64 (Jb.maxSq dn []), .int .i64 sp, .int .i64 tr, .slice A2 0 c2, .int .i64 la, .int .i64 tw, .int .i64 pd] _ 0 (Q2r.out.setCell (p := ⟨w.heap.size, 2, none⟩) (by simp; omega) (.int .i64 now))
      have WF := WtsIn.setRow (g := w.heap.size + 1 + 1) (by omega) [.int .i64 le, .int .i64 mo, .int .i64 now, .bool on, .int .i64 ze, .int .i64 fi, .int .i64 hi, .int .i64 (Jb.maxSq dn []), .int .i64 sp, .int .i64 tr, .slice A2 0 c2, .int .i64 la, .int .i64 tw, .int .i64 pd] _ 0 (W1r.out.setCell (p := ⟨w.heap.size, 2, none⟩) (by simp; omega) (.int .i64 now))
      have UF := below_setRow (g := w.heap.size + 1 + 1) (by omega) [.int .i64 le, .int .i64 mo, .int .i64 now, .bool on, .int .i64 ze, .int .i64 fi, .int .i64 hi, .int .i64 (Jb.maxSq dn []), .int .i64 sp, .int .i64 tr, .slice A2 0 c2, .int .i64 la, .int .i64 tw, .int .i64 pd] _ 0 (below_set_old (p := ⟨w.heap.size, 2, none⟩) Ur.out (Nat.le_refl _) (.int .i64 now))
      have SF := setRow_size (w.heap.size + 1 + 1) [.int .i64 le, .int .i64 mo, .int .i64 now, .bool on, .int .i64 ze, .int .i64 fi, .int .i64 hi, .int .i64 (Jb.maxSq dn []), .int .i64 sp, .int .i64 tr, .slice A2 0 c2, .int .i64 la, .int .i64 tw, .int .i64 pd] (wr.setCell ⟨w.heap.size, 2, none⟩ (.int .i64 now)) 0
      obtain ⟨W, hW⟩ : ∃ W, W = setRow (w.heap.size + 1 + 1) (wr.setCell ⟨w.heap.size, 2, none⟩ (.int .i64 now)) 0 [.int .i64 le, .int .i64 mo, .int .i64 now, .bool on, .int .i64 ze, .int .i64 fi, .int .i64 hi, .int .i64 (Jb.maxSq dn []), .int .i64 sp, .int .i64 tr, .slice A2 0 c2, .int .i64 la, .int .i64 tw, .int .i64 pd] := ⟨_, rfl⟩
      rw [← hW] at BF QF WF UF SF
      simp only [setRow, Nat.zero_add, Nat.reduceAdd] at hW
      rw [← hW]
      have hl2 : l2.length = 0 := Q2r.out.len
      have hl1 : l1.length = 0 := HL1.out
      rw [← hl2] at BF QF
      exact bodyPost_ret (v := .tuple #[.agg (List.toArray [.int .i64 le, .int .i64 mo, .int .i64 now, .bool on, .int .i64 ze, .int .i64 fi, .int .i64 hi, .int .i64 (Jb.maxSq dn []), .int .i64 sp, .int .i64 tr, .slice A2 l2.length c2, .int .i64 la, .int .i64 tw, .int .i64 pd]), .slice A1 0 c1]) (res_ct Try.results29 rfl (run_loadVar_row (P := Try.prog) _ _ _ _ _ _ _ BF Try.underlying26 rfl (by kernel_rfl)) rfl) rfl ⟨A1, c1, l1, A2, c2, l2, w2.heap.size, by rw [hl1, show ((Jb.due now []).length : Int) = 0 from rfl, Int.add_zero]; rfl, HM1.out, HM2.out, WF.less (by omega), QF, by omega, by have := HSr.out; rw [SF]; simpa [World.setCell] using this, HCA.out, UF⟩
    exact absurd hk (by omega)
end Go.Proofs.Ytnaafjdnmbajjaa

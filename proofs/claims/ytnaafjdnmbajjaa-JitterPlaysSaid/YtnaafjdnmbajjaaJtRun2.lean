/- Layer 30: run, where all packets are played. -/
import Derived.Test.YtnaafjdnmbajjaaJtRun
namespace Go.Proofs.Ytnaafjdnmbajjaa
open Go.RowKit
set_option linter.unusedVariables false
set_option linter.unusedSimpArgs false
attribute [local go_sem ↓] run_min_plain run_max_plain
attribute [local go_sem] setCell_drewN alloc_drewN
set_option maxRecDepth 100000 in
set_option maxHeartbeats 12800000 in
theorem run_full (le mo nw : Int) (on : Bool) (ze fi hi dn sp tr : Int) (A : Option Addr) (l : List TW) (n qc : Nat) (la tw pd now : Int) (w : World) (hn : l.length = n) (hl : n ≤ 200) (hcap : n ≤ qc) (hcm : qc ≤ maxLen) (hA : Wts w w.heap.size A l) (hp : ∀ a ∈ l, a.w.m.pl.length ≤ 1000000) (hpd : -9223372036854775808 ≤ pd ∧ pd ≤ 9223372036854775000)
    (hd : n = (Jb.due now (l.map TW.w)).length) (b off : Nat) (hAe : A = some ⟨b, off, none⟩) : Calls Try.prog 29 #[.agg #[.int .i64 le, .int .i64 mo, .int .i64 nw, .bool on, .int .i64 ze, .int .i64 fi, .int .i64 hi, .int .i64 dn, .int .i64 sp, .int .i64 tr, .slice A n qc, .int .i64 la, .int .i64 tw, .int .i64 pd], .int .i64 now] w (RunR le mo on ze fi hi dn sp tr (l.map TW.w) la tw pd now w) := by
  subst hn
  unfold maxLen at hcm
  subst hAe
  have h5 : (l.length : Int) ≤ (qc : Int) := by omega
  have hR : firstLate now (l.map TW.w) = -1 := by unfold firstLate; rw [← hd, if_pos (by simp)]
  obtain ⟨W0, hW0⟩ : ∃ W0, W0 = ((w.alloc (.cells #[.int .i64 le, .int .i64 mo, .int .i64 nw, .bool on, .int .i64 ze, .int .i64 fi, .int .i64 hi, .int .i64 dn, .int .i64 sp, .int .i64 tr, .slice (some ⟨b, off, none⟩) l.length qc, .int .i64 la, .int .i64 tw, .int .i64 pd] 26)).alloc (.cells #[.int .i64 now] 3)).alloc (.cells #[.int .i64 0, .int .i64 0, .int .i64 0, .bool false, .int .i64 0, .int .i64 0, .int .i64 0, .int .i64 0, .int .i64 0, .int .i64 0, .slice none 0 0, .int .i64 0, .int .i64 0, .int .i64 0] 26) := ⟨_, rfl⟩
  have hU0 : Bel w W0 := by rw [hW0]; exact (((Bel.refl w).push _).push _).push _
  have hB0 : Blk W0 w.heap.size 26 #[.int .i64 le, .int .i64 mo, .int .i64 nw, .bool on, .int .i64 ze, .int .i64 fi, .int .i64 hi, .int .i64 dn, .int .i64 sp, .int .i64 tr, .slice (some ⟨b, off, none⟩) l.length qc, .int .i64 la, .int .i64 tw, .int .i64 pd] := by rw [hW0]; exact ((Blk.new w _ _).push _).push _
  have hB1 : Blk W0 (w.heap.size + 1) 3 #[.int .i64 now] := by rw [hW0]; exact (Blk.new1 w _ _ _).push _
  have hB2 : Blk W0 (w.heap.size + 1 + 1) 26 #[.int .i64 0, .int .i64 0, .int .i64 0, .bool false, .int .i64 0, .int .i64 0, .int .i64 0, .int .i64 0, .int .i64 0, .int .i64 0, .slice none 0 0, .int .i64 0, .int .i64 0, .int .i64 0] := by rw [hW0]; have := Blk.new ((w.alloc (.cells #[.int .i64 le, .int .i64 mo, .int .i64 nw, .bool on, .int .i64 ze, .int .i64 fi, .int .i64 hi, .int .i64 dn, .int .i64 sp, .int .i64 tr, .slice (some ⟨b, off, none⟩) l.length qc, .int .i64 la, .int .i64 tw, .int .i64 pd] 26)).alloc (.cells #[.int .i64 now] 3)) 26 #[.int .i64 0, .int .i64 0, .int .i64 0, .bool false, .int .i64 0, .int .i64 0, .int .i64 0, .int .i64 0, .int .i64 0, .int .i64 0, .slice none 0 0, .int .i64 0, .int .i64 0, .int .i64 0]; rw [size_alloc2] at this; exact this
  have hA0 : Wts W0 W0.heap.size (some ⟨b, off, none⟩) l := (hA.below hU0).more hU0.size
  have k1 := index_any (some ⟨b, off, none⟩) l l.length qc (w.heap.size + 1) now W0 rfl (by omega) hA0 (hB1.at 0 _ rfl) hB1.lt
  rw [hR] at k1
  rw [hW0] at k1
  have K1 := Lib.hid k1
  have HW0 := Lib.hid hW0
  have U0 := Lib.hid hU0
  have BS := Lib.hid hB0
  have BN := Lib.hid hB1
  have BR := Lib.hid hB2
  have HA := Lib.hid hA0
  have HP := Lib.hid hp
  have HD := Lib.hid hd
  clear k1 hW0 hU0 hB0 hB1 hB2 hA0 hp hA hd hR
  by_cases hq : qc = l.length
  · subst hq
    go_enter Try.func29, Try.ntmps29
    go_wp2_with fail
    refine K1.out.mono ?_
    rw [← HW0.out]
    rintro e w1 ⟨rfl, hb1⟩
    have U1 := Lib.hid (U0.out.later hb1)
    have BS1 := Lib.hid (BS.out.later hb1)
    have BN1 := Lib.hid (BN.out.later hb1)
    have BR1 := Lib.hid (BR.out.later hb1)
    have HA1 := Lib.hid (HA.out.later hb1)
    have g10 := BS1.out.at 10 _ rfl
    clear hb1 K1 HW0 U0 BS BN BR HA
    have HQ := Lib.hid (due_take now (l.map TW.w))
    rw [← HD.out] at HQ
    have HPT := Lib.hid (fun (a : TW) (ha : a ∈ l.take l.length) => HP.out a (List.mem_of_mem_take ha))
    have HPD := Lib.hid (fun (a : TW) (ha : a ∈ l.drop l.length) => HP.out a (List.mem_of_mem_drop ha))
    have k2 := Lib.hid (copyQueue_n (some ⟨b, off, none⟩) (l.take l.length) l.length l.length w1 w1.heap.size (Nat.le_refl _) (by simp) (by omega) (HA1.out.take l.length) HPT.out (Jb.due now (l.map TW.w)) (by rw [HQ.out.1, List.map_take]))
    go_wp2_with fail
    refine k2.out.mono ?_
    rintro e w2 ⟨A1, c1, l1, rfl, hm1, hq1, hb2⟩
    have HM1 := Lib.hid hm1
    have Q1 := Lib.hid hq1.wtsIn
    have HL1 := Lib.hid hq1.len
    have HCA : Hid (l1.length ≤ c1 ∧ c1 ≤ maxLen) := Lib.hid ⟨by rw [hq1.len]; exact hq1.own.cap, Owns.capm hq1.own⟩
    have U2 := Lib.hid (U1.out.later hb2)
    have BS2 := Lib.hid (BS1.out.later hb2)
    have BN2 := Lib.hid (BN1.out.later hb2)
    have BR2 := Lib.hid (BR1.out.later hb2)
    have HA2 := Lib.hid (HA1.out.later hb2)
    have hs1 := BR1.out.lt
    have hs2 := hb2.size
    have k3 := Lib.hid fun (A9 : Option Addr) (c9 : Nat) => (copyQueue_n A9 [] 0 c9 w2 w2.heap.size (Nat.le_refl _) rfl (by omega) Wts.empty (fun _ h => by cases h) (Jb.left now (l.map TW.w)) (by rw [HQ.out.2, List.drop_of_length_le (by simp)]; rfl))
    clear hb2 hm1 hq1 U1 BS1 BN1 BR1 HA1 k2
    clear g10
    have g10 := BS2.out.at 10 _ rfl
    go_wp2_with fail
    refine (k3.out _ _).mono ?_
    rintro e w3 ⟨A2, c2, l2, rfl, hm2, hq2, hb3⟩
    have HM2 := Lib.hid hm2
    have Q2 := Lib.hid hq2
    have Q1' := Lib.hid (Q1.out.below hb3 (Nat.le_refl _))
    have U3 := Lib.hid (U2.out.later hb3)
    have BS3 := Lib.hid (BS2.out.later hb3)
    have BN3 := Lib.hid (BN2.out.later hb3)
    have BR3 := Lib.hid (BR2.out.later hb3)
    have hs3 := hb3.size
    clear hb3 hm2 hq2 U2 BS2 BN2 BR2 HA2 k3 Q1 g10
    have f13 := BS3.out.at 13 _ rfl
    have f10 := BS3.out.at 10 _ rfl
    have fz := BS3.out.frozen
    go_wp2_with fail
    go_loopg [38] l.length (fun gk i wr => ∃ k : Nat, gk + k = l.length ∧ i = .int .i64 k ∧ Hid (Blk wr w.heap.size 26 #[.int .i64 le, .int .i64 mo, .int .i64 nw, .bool on, .int .i64 ze, .int .i64 fi, .int .i64 hi, .int .i64 (Jb.maxSq dn ((Jb.due now (l.map TW.w)).take k)), .int .i64 sp, .int .i64 tr, .slice A2 0 c2, .int .i64 la, .int .i64 tw, .int .i64 (pd + l.length)]) ∧ Hid (Blk wr (w.heap.size + 1) 3 #[.int .i64 now]) ∧ Hid (Blk wr (w.heap.size + 1 + 1) 26 #[.int .i64 0, .int .i64 0, .int .i64 0, .bool false, .int .i64 0, .int .i64 0, .int .i64 0, .int .i64 0, .int .i64 0, .int .i64 0, .slice none 0 0, .int .i64 0, .int .i64 0, .int .i64 0]) ∧ Hid (WtsIn wr w1.heap.size w2.heap.size A1 l1) ∧ Hid (QOwn wr w2.heap.size A2 0 c2 l2) ∧ Hid (Bel w wr) ∧ Hid (w2.heap.size ≤ wr.heap.size))
    case atStart =>
      refine ⟨0, rfl, rfl, Lib.hid ?_, Lib.hid ?_, Lib.hid ?_, Lib.hid ?_, Lib.hid ?_, Lib.hid ?_, Lib.hid ?_⟩
      · exact (BS3.out.set_ 10 (.slice A2 0 c2)).set_ 13 (.int .i64 (pd + l.length))
      · exact (BN3.out.far (by simp) _).far (by simp) _
      · exact (BR3.out.far (by simp; omega) _).far (by simp; omega) _
      · exact (Q1'.out.setCell (by simp; omega) _).setCell (by simp; omega) _
      · exact (Q2.out.setCell (by simp; omega) _).setCell (by simp; omega) _
      · exact below_set_old (below_set_old U3.out (Nat.le_refl _) _) (Nat.le_refl _) _
      · simpa [World.setCell] using hs3
    case round =>
      obtain ⟨k, hgk, rfl, BSr, BNr, BRr, W1r, Q2r, Ur, HSr⟩ := hrel
      have hi0 : (0 : Int) ≤ (k : Int) := by omega
      have hz0 := BSr.out.lt
      have fzr := BSr.out.frozen
      by_cases hk : k < l.length
      rotate_left
      · obtain rfl : k = l.length := by omega
        have hi1 : (l.length : Int) ≤ (l.length : Int) := Int.le_refl _
        have p0 := BSr.out.at 0 _ rfl
        have p1 := BSr.out.at 1 _ rfl
        have p2 := BSr.out.at 2 _ rfl
        have p3 := BSr.out.at 3 _ rfl
        have p4 := BSr.out.at 4 _ rfl
        have p5 := BSr.out.at 5 _ rfl
        have p6 := BSr.out.at 6 _ rfl
        have p7 := BSr.out.at 7 _ rfl
        have p8 := BSr.out.at 8 _ rfl
        have p9 := BSr.out.at 9 _ rfl
        have p10 := BSr.out.at 10 _ rfl
        have p11 := BSr.out.at 11 _ rfl
        have p12 := BSr.out.at 12 _ rfl
        have p13 := BSr.out.at 13 _ rfl
        have r0 := BRr.out.at 0 _ rfl
        have r1 := BRr.out.at 1 _ rfl
        have r2 := BRr.out.at 2 _ rfl
        have r3 := BRr.out.at 3 _ rfl
        have r4 := BRr.out.at 4 _ rfl
        have r5 := BRr.out.at 5 _ rfl
        have r6 := BRr.out.at 6 _ rfl
        have r7 := BRr.out.at 7 _ rfl
        have r8 := BRr.out.at 8 _ rfl
        have r9 := BRr.out.at 9 _ rfl
        have r10 := BRr.out.at 10 _ rfl
        have r11 := BRr.out.at 11 _ rfl
        have r12 := BRr.out.at 12 _ rfl
        have r13 := BRr.out.at 13 _ rfl
        have n0 := BNr.out.at 0 _ rfl
        have rfz := BRr.out.frozen
        go_wp2_with fail
        have htk : (Jb.due now (l.map TW.w)).take l.length = Jb.due now (l.map TW.w) := List.take_of_length_le (Nat.le_of_eq HD.out.symm)
        rw [htk]
        have BF := Blk.setRow (BRr.out.far (p := ⟨w.heap.size, 2, none⟩) (by simp; omega) (.int .i64 now)) [.int .i64 le, .int .i64 mo, .int .i64 now, .bool on, .int .i64 ze, .int .i64 fi, .int .i64 hi, .int .i64 (Jb.maxSq dn (Jb.due now (l.map TW.w))), .int .i64 sp, .int .i64 tr, .slice A2 0 c2, .int .i64 la, .int .i64 tw, .int .i64 (pd + l.length)] rfl
        have QF := QOwn.setRow (g := w.heap.size + 1 + 1) (by omega) [.int .i64 le, .int .i64 mo, .int .i64 now, .bool on, .int .i64 ze, .int .i64 fi, .int .i64 hi, .int .i64 (Jb.maxSq dn (Jb.due now (l.map TW.w))), .int .i64 sp, .int .i64 tr, .slice A2 0 c2, .int .i64 la, .int .i64 tw, .int .i64 (pd + l.length)] _ 0 (Q2r.out.setCell (p := ⟨w.heap.size, 2, none⟩) (by simp; omega) (.int .i64 now))
        have WF := WtsIn.setRow (g := w.heap.size + 1 + 1) (by omega) [.int .i64 le, .int .i64 mo, .int .i64 now, .bool on, .int .i64 ze, .int .i64 fi, .int .i64 hi, .int .i64 (Jb.maxSq dn (Jb.due now (l.map TW.w))), .int .i64 sp, .int .i64 tr, .slice A2 0 c2, .int .i64 la, .int .i64 tw, .int .i64 (pd + l.length)] _ 0 (W1r.out.setCell (p := ⟨w.heap.size, 2, none⟩) (by simp; omega) (.int .i64 now))
        have UF := below_setRow (g := w.heap.size + 1 + 1) (by omega) [.int .i64 le, .int .i64 mo, .int .i64 now, .bool on, .int .i64 ze, .int .i64 fi, .int .i64 hi, .int .i64 (Jb.maxSq dn (Jb.due now (l.map TW.w))), .int .i64 sp, .int .i64 tr, .slice A2 0 c2, .int .i64 la, .int .i64 tw, .int .i64 (pd + l.length)] _ 0 (below_set_old (p := ⟨w.heap.size, 2, none⟩) Ur.out (Nat.le_refl _) (.int .i64 now))
        have SF := setRow_size (w.heap.size + 1 + 1) [.int .i64 le, .int .i64 mo, .int .i64 now, .bool on, .int .i64 ze, .int .i64 fi, .int .i64 hi, .int .i64 (Jb.maxSq dn (Jb.due now (l.map TW.w))), .int .i64 sp, .int .i64 tr, .slice A2 0 c2, .int .i64 la, .int .i64 tw, .int .i64 (pd + l.length)] (wr.setCell ⟨w.heap.size, 2, none⟩ (.int .i64 now)) 0
        obtain ⟨W, hW⟩ : ∃ W, W = setRow (w.heap.size + 1 + 1) (wr.setCell ⟨w.heap.size, 2, none⟩ (.int .i64 now)) 0 [.int .i64 le, .int .i64 mo, .int .i64 now, .bool on, .int .i64 ze, .int .i64 fi, .int .i64 hi, .int .i64 (Jb.maxSq dn (Jb.due now (l.map TW.w))), .int .i64 sp, .int .i64 tr, .slice A2 0 c2, .int .i64 la, .int .i64 tw, .int .i64 (pd + l.length)] := ⟨_, rfl⟩
        rw [← hW] at BF QF WF UF SF
        simp only [setRow, Nat.zero_add, Nat.reduceAdd] at hW
        rw [← hW]
        have hl2 : l2.length = 0 := Q2r.out.len
        have hl1 : l1.length = l.length := HL1.out
        rw [← hl2] at BF QF
        exact bodyPost_ret (v := .tuple #[.agg (List.toArray [.int .i64 le, .int .i64 mo, .int .i64 now, .bool on, .int .i64 ze, .int .i64 fi, .int .i64 hi, .int .i64 (Jb.maxSq dn (Jb.due now (l.map TW.w))), .int .i64 sp, .int .i64 tr, .slice A2 l2.length c2, .int .i64 la, .int .i64 tw, .int .i64 (pd + l.length)]), .slice A1 l.length c1]) (res_ct Try.results29 rfl (run_loadVar_row (P := Try.prog) _ _ _ _ _ _ _ BF Try.underlying26 rfl (by kernel_rfl)) rfl) rfl ⟨A1, c1, l1, A2, c2, l2, w2.heap.size, by rw [hl1, ← HD.out], HM1.out, HM2.out, WF.less (by omega), QF, by omega, by have := HSr.out; rw [SF]; simpa [World.setCell] using this, HCA.out, UF⟩
      have hi1 : (k : Int) < (l.length : Int) := by omega
      have hl1 : l1.length = l.length := HL1.out
      obtain ⟨a, ha⟩ : ∃ a, l1[k]? = some a := ⟨_, List.getElem?_eq_getElem (by omega)⟩
      obtain ⟨b9, off9, rfl, hbB, e0, e1, e2, e3, e4, e5⟩ := rowsW W1r.out.rows.1 ha
      have hm : (Jb.due now (l.map TW.w))[k]? = some a.w := by rw [← HM1.out, List.getElem?_map, ha]; rfl
      have HM := Lib.hid hm
      obtain ⟨⟨at0, ⟨sq0, ti0, mk0, ty0, pl0⟩⟩, B0, c0⟩ := a
      simp only at e0 e1 e2 e3 e4 e5 HM
      have hbw : b9 < wr.heap.size := Nat.lt_of_lt_of_le hbB HSr.out
      have p7 := BSr.out.at 7 _ rfl
      clear ha hm hl1
      go_wp2_with fail
      go_roundg (gk - 1)
      case measure => omega
      case rel =>
        refine ⟨k + 1, by omega, by go_num, Lib.hid ?_, Lib.hid ?_, Lib.hid ?_, Lib.hid ?_, Lib.hid ?_, Lib.hid ?_, Lib.hid ?_⟩
        · rw [List.take_add_one, HM.out]
          simp only [Option.toList_some]
          rw [maxSq_snoc]
          exact (BSr.out.set_ 7 _).push _
        · exact (BNr.out.far (by simp) _).push _
        · exact (BRr.out.far (by simp; omega) _).push _
        · exact (W1r.out.setCell (by simp; omega) _).below ((Below.refl _ _).alloc (Nat.le_refl _) _) (by have := HSr.out; simpa [World.setCell] using this)
        · exact (Q2r.out.setCell (by simp; omega) _).push _
        · exact Bel.push (below_set_old Ur.out (Nat.le_refl _) _) _
        · have := HSr.out; simp [World.setCell]; omega
  go_enter Try.func29, Try.ntmps29
  go_wp2_with fail
  refine K1.out.mono ?_
  rw [← HW0.out]
  rintro e w1 ⟨rfl, hb1⟩
  have U1 := Lib.hid (U0.out.later hb1)
  have BS1 := Lib.hid (BS.out.later hb1)
  have BN1 := Lib.hid (BN.out.later hb1)
  have BR1 := Lib.hid (BR.out.later hb1)
  have HA1 := Lib.hid (HA.out.later hb1)
  have g10 := BS1.out.at 10 _ rfl
  clear hb1 K1 HW0 U0 BS BN BR HA
  have HQ := Lib.hid (due_take now (l.map TW.w))
  rw [← HD.out] at HQ
  have HPT := Lib.hid (fun (a : TW) (ha : a ∈ l.take l.length) => HP.out a (List.mem_of_mem_take ha))
  have HPD := Lib.hid (fun (a : TW) (ha : a ∈ l.drop l.length) => HP.out a (List.mem_of_mem_drop ha))
  have k2 := Lib.hid (copyQueue_n (some ⟨b, off, none⟩) (l.take l.length) l.length l.length w1 w1.heap.size (Nat.le_refl _) (by simp) (by omega) (HA1.out.take l.length) HPT.out (Jb.due now (l.map TW.w)) (by rw [HQ.out.1, List.map_take]))
  go_wp2_with fail
  refine k2.out.mono ?_
  rintro e w2 ⟨A1, c1, l1, rfl, hm1, hq1, hb2⟩
  have HM1 := Lib.hid hm1
  have Q1 := Lib.hid hq1.wtsIn
  have HL1 := Lib.hid hq1.len
  have HCA : Hid (l1.length ≤ c1 ∧ c1 ≤ maxLen) := Lib.hid ⟨by rw [hq1.len]; exact hq1.own.cap, Owns.capm hq1.own⟩
  have U2 := Lib.hid (U1.out.later hb2)
  have BS2 := Lib.hid (BS1.out.later hb2)
  have BN2 := Lib.hid (BN1.out.later hb2)
  have BR2 := Lib.hid (BR1.out.later hb2)
  have HA2 := Lib.hid (HA1.out.later hb2)
  have hs1 := BR1.out.lt
  have hs2 := hb2.size
  have k3 := Lib.hid fun (A9 : Option Addr) (c9 : Nat) => (copyQueue_n A9 [] 0 c9 w2 w2.heap.size (Nat.le_refl _) rfl (by omega) Wts.empty (fun _ h => by cases h) (Jb.left now (l.map TW.w)) (by rw [HQ.out.2, List.drop_of_length_le (by simp)]; rfl))
  clear hb2 hm1 hq1 U1 BS1 BN1 BR1 HA1 k2
  clear g10
  have g10 := BS2.out.at 10 _ rfl
  go_wp2_with fail
  refine (k3.out _ _).mono ?_
  rintro e w3 ⟨A2, c2, l2, rfl, hm2, hq2, hb3⟩
  have HM2 := Lib.hid hm2
  have Q2 := Lib.hid hq2
  have Q1' := Lib.hid (Q1.out.below hb3 (Nat.le_refl _))
  have U3 := Lib.hid (U2.out.later hb3)
  have BS3 := Lib.hid (BS2.out.later hb3)
  have BN3 := Lib.hid (BN2.out.later hb3)
  have BR3 := Lib.hid (BR2.out.later hb3)
  have hs3 := hb3.size
  clear hb3 hm2 hq2 U2 BS2 BN2 BR2 HA2 k3 Q1 g10
  have f13 := BS3.out.at 13 _ rfl
  have f10 := BS3.out.at 10 _ rfl
  have fz := BS3.out.frozen
  go_wp2_with fail
  go_loopg [38] l.length (fun gk i wr => ∃ k : Nat, gk + k = l.length ∧ i = .int .i64 k ∧ Hid (Blk wr w.heap.size 26 #[.int .i64 le, .int .i64 mo, .int .i64 nw, .bool on, .int .i64 ze, .int .i64 fi, .int .i64 hi, .int .i64 (Jb.maxSq dn ((Jb.due now (l.map TW.w)).take k)), .int .i64 sp, .int .i64 tr, .slice A2 0 c2, .int .i64 la, .int .i64 tw, .int .i64 (pd + l.length)]) ∧ Hid (Blk wr (w.heap.size + 1) 3 #[.int .i64 now]) ∧ Hid (Blk wr (w.heap.size + 1 + 1) 26 #[.int .i64 0, .int .i64 0, .int .i64 0, .bool false, .int .i64 0, .int .i64 0, .int .i64 0, .int .i64 0, .int .i64 0, .int .i64 0, .slice none 0 0, .int .i64 0, .int .i64 0, .int .i64 0]) ∧ Hid (WtsIn wr w1.heap.size w2.heap.size A1 l1) ∧ Hid (QOwn wr w2.heap.size A2 0 c2 l2) ∧ Hid (Bel w wr) ∧ Hid (w2.heap.size ≤ wr.heap.size))
  case atStart =>
    refine ⟨0, rfl, rfl, Lib.hid ?_, Lib.hid ?_, Lib.hid ?_, Lib.hid ?_, Lib.hid ?_, Lib.hid ?_, Lib.hid ?_⟩
    · exact (BS3.out.set_ 10 (.slice A2 0 c2)).set_ 13 (.int .i64 (pd + l.length))
    · exact (BN3.out.far (by simp) _).far (by simp) _
    · exact (BR3.out.far (by simp; omega) _).far (by simp; omega) _
    · exact (Q1'.out.setCell (by simp; omega) _).setCell (by simp; omega) _
    · exact (Q2.out.setCell (by simp; omega) _).setCell (by simp; omega) _
    · exact below_set_old (below_set_old U3.out (Nat.le_refl _) _) (Nat.le_refl _) _
    · simpa [World.setCell] using hs3
  case round =>
    obtain ⟨k, hgk, rfl, BSr, BNr, BRr, W1r, Q2r, Ur, HSr⟩ := hrel
    have hi0 : (0 : Int) ≤ (k : Int) := by omega
    have hz0 := BSr.out.lt
    have fzr := BSr.out.frozen
    by_cases hk : k < l.length
    rotate_left
    · obtain rfl : k = l.length := by omega
      have hi1 : (l.length : Int) ≤ (l.length : Int) := Int.le_refl _
      have p0 := BSr.out.at 0 _ rfl
      have p1 := BSr.out.at 1 _ rfl
      have p2 := BSr.out.at 2 _ rfl
      have p3 := BSr.out.at 3 _ rfl
      have p4 := BSr.out.at 4 _ rfl
      have p5 := BSr.out.at 5 _ rfl
      have p6 := BSr.out.at 6 _ rfl
      have p7 := BSr.out.at 7 _ rfl
      have p8 := BSr.out.at 8 _ rfl
      have p9 := BSr.out.at 9 _ rfl
      have p10 := BSr.out.at 10 _ rfl
      have p11 := BSr.out.at 11 _ rfl
      have p12 := BSr.out.at 12 _ rfl
      have p13 := BSr.out.at 13 _ rfl
      have r0 := BRr.out.at 0 _ rfl
      have r1 := BRr.out.at 1 _ rfl
      have r2 := BRr.out.at 2 _ rfl
      have r3 := BRr.out.at 3 _ rfl
      have r4 := BRr.out.at 4 _ rfl
      have r5 := BRr.out.at 5 _ rfl
      have r6 := BRr.out.at 6 _ rfl
      have r7 := BRr.out.at 7 _ rfl
      have r8 := BRr.out.at 8 _ rfl
      have r9 := BRr.out.at 9 _ rfl
      have r10 := BRr.out.at 10 _ rfl
      have r11 := BRr.out.at 11 _ rfl
      have r12 := BRr.out.at 12 _ rfl
      have r13 := BRr.out.at 13 _ rfl
      have n0 := BNr.out.at 0 _ rfl
      have rfz := BRr.out.frozen
      go_wp2_with fail
      have htk : (Jb.due now (l.map TW.w)).take l.length = Jb.due now (l.map TW.w) := List.take_of_length_le (Nat.le_of_eq HD.out.symm)
      rw [htk]
      have BF := Blk.setRow (BRr.out.far (p := ⟨w.heap.size, 2, none⟩) (by simp; omega) (.int .i64 now)) [.int .i64 le, .int .i64 mo, .int .i64 now, .bool on, .int .i64 ze, .int .i64 fi, .int .i64 hi, .int .i64 (Jb.maxSq dn (Jb.due now (l.map TW.w))), .int .i64 sp, .int .i64 tr, .slice A2 0 c2, .int .i64 la, .int .i64 tw, .int .i64 (pd + l.length)] rfl
      have QF := QOwn.setRow (g := w.heap.size + 1 + 1) (by omega) [.int .i64 le, .int .i64 mo, .int .i64 now, .bool on, .int .i64 ze, .int .i64 fi, .int .i64 hi, .int .i64 (Jb.maxSq dn (Jb.due now (l.map TW.w))), .int .i64 sp, .int .i64 tr, .slice A2 0 c2, .int .i64 la, .int .i64 tw, .int .i64 (pd + l.length)] _ 0 (Q2r.out.setCell (p := ⟨w.heap.size, 2, none⟩) (by simp; omega) (.int .i64 now))
      have WF := WtsIn.setRow (g := w.heap.size + 1 + 1) (by omega) [.int .i64 le, .int .i64 mo, .int .i64 now, .bool on, .int .i64 ze, .int .i64 fi, .int .i64 hi, .int .i64 (Jb.maxSq dn (Jb.due now (l.map TW.w))), .int .i64 sp, .int .i64 tr, .slice A2 0 c2, .int .i64 la, .int .i64 tw, .int .i64 (pd + l.length)] _ 0 (W1r.out.setCell (p := ⟨w.heap.size, 2, none⟩) (by simp; omega) (.int .i64 now))
      have UF := below_setRow (g := w.heap.size + 1 + 1) (by omega) [.int .i64 le, .int .i64 mo, .int .i64 now, .bool on, .int .i64 ze, .int .i64 fi, .int .i64 hi, .int .i64 (Jb.maxSq dn (Jb.due now (l.map TW.w))), .int .i64 sp, .int .i64 tr, .slice A2 0 c2, .int .i64 la, .int .i64 tw, .int .i64 (pd + l.length)] _ 0 (below_set_old (p := ⟨w.heap.size, 2, none⟩) Ur.out (Nat.le_refl _) (.int .i64 now))
      have SF := setRow_size (w.heap.size + 1 + 1) [.int .i64 le, .int .i64 mo, .int .i64 now, .bool on, .int .i64 ze, .int .i64 fi, .int .i64 hi, .int .i64 (Jb.maxSq dn (Jb.due now (l.map TW.w))), .int .i64 sp, .int .i64 tr, .slice A2 0 c2, .int .i64 la, .int .i64 tw, .int .i64 (pd + l.length)] (wr.setCell ⟨w.heap.size, 2, none⟩ (.int .i64 now)) 0
      obtain ⟨W, hW⟩ : ∃ W, W = setRow (w.heap.size + 1 + 1) (wr.setCell ⟨w.heap.size, 2, none⟩ (.int .i64 now)) 0 [.int .i64 le, .int .i64 mo, .int .i64 now, .bool on, .int .i64 ze, .int .i64 fi, .int .i64 hi, .int .i64 (Jb.maxSq dn (Jb.due now (l.map TW.w))), .int .i64 sp, .int .i64 tr, .slice A2 0 c2, .int .i64 la, .int .i64 tw, .int .i64 (pd + l.length)] := ⟨_, rfl⟩
      rw [← hW] at BF QF WF UF SF
      simp only [setRow, Nat.zero_add, Nat.reduceAdd] at hW
      rw [← hW]
      have hl2 : l2.length = 0 := Q2r.out.len
      have hl1 : l1.length = l.length := HL1.out
      rw [← hl2] at BF QF
      exact bodyPost_ret (v := .tuple #[.agg (List.toArray [.int .i64 le, .int .i64 mo, .int .i64 now, .bool on, .int .i64 ze, .int .i64 fi, .int .i64 hi, .int .i64 (Jb.maxSq dn (Jb.due now (l.map TW.w))), .int .i64 sp, .int .i64 tr, .slice A2 l2.length c2, .int .i64 la, .int .i64 tw, .int .i64 (pd + l.length)]), .slice A1 l.length c1]) (res_ct Try.results29 rfl (run_loadVar_row (P := Try.prog) _ _ _ _ _ _ _ BF Try.underlying26 rfl (by kernel_rfl)) rfl) rfl ⟨A1, c1, l1, A2, c2, l2, w2.heap.size, by rw [hl1, ← HD.out], HM1.out, HM2.out, WF.less (by omega), QF, by omega, by have := HSr.out; rw [SF]; simpa [World.setCell] using this, HCA.out, UF⟩
    have hi1 : (k : Int) < (l.length : Int) := by omega
    have hl1 : l1.length = l.length := HL1.out
    obtain ⟨a, ha⟩ : ∃ a, l1[k]? = some a := ⟨_, List.getElem?_eq_getElem (by omega)⟩
    obtain ⟨b9, off9, rfl, hbB, e0, e1, e2, e3, e4, e5⟩ := rowsW W1r.out.rows.1 ha
    have hm : (Jb.due now (l.map TW.w))[k]? = some a.w := by rw [← HM1.out, List.getElem?_map, ha]; rfl
    have HM := Lib.hid hm
    obtain ⟨⟨at0, ⟨sq0, ti0, mk0, ty0, pl0⟩⟩, B0, c0⟩ := a
    simp only at e0 e1 e2 e3 e4 e5 HM
    have hbw : b9 < wr.heap.size := Nat.lt_of_lt_of_le hbB HSr.out
    have p7 := BSr.out.at 7 _ rfl
    clear ha hm hl1
    go_wp2_with fail
    go_roundg (gk - 1)
    case measure => omega
    case rel =>
      refine ⟨k + 1, by omega, by go_num, Lib.hid ?_, Lib.hid ?_, Lib.hid ?_, Lib.hid ?_, Lib.hid ?_, Lib.hid ?_, Lib.hid ?_⟩
      · rw [List.take_add_one, HM.out]
        simp only [Option.toList_some]
        rw [maxSq_snoc]
        exact (BSr.out.set_ 7 _).push _
      · exact (BNr.out.far (by simp) _).push _
      · exact (BRr.out.far (by simp; omega) _).push _
      · exact (W1r.out.setCell (by simp; omega) _).below ((Below.refl _ _).alloc (Nat.le_refl _) _) (by have := HSr.out; simpa [World.setCell] using this)
      · exact (Q2r.out.setCell (by simp; omega) _).push _
      · exact Bel.push (below_set_old Ur.out (Nat.le_refl _) _) _
      · have := HSr.out; simp [World.setCell]; omega
end Go.Proofs.Ytnaafjdnmbajjaa

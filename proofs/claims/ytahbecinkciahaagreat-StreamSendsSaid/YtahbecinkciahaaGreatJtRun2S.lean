/- Layer 30: run, where all packets are played. -/
import Derived.Test.YtahbecinkciahaaGreatSs9S
import Derived.Test.YtahbecinkciahaaGreatJtCopyS
import Derived.Maps.OwnOps
import Derived.Maps.Views
set_option linter.unusedVariables false
set_option linter.unusedSimpArgs false
set_option maxRecDepth 100000
set_option maxHeartbeats 12800000
namespace Go.Proofs.YtahbecinkciahaaGreat
attribute [local go_sem ↓] zac zad
attribute [local go_sem] zab zag
open Go.RowKit
theorem zpk (le mo nw : Int) (on : Bool) (ze fi hi dn sp tr : Int) (A : Option Addr) (l : List TW) (n qc : Nat) (la tw pd now : Int) (w : World) (hn : l.length = n) (hl : n ≤ 200) (hcap : n ≤ qc) (hcm : qc ≤ maxLen) (hA : Wts w w.heap.size A l) (hp : ∀ a ∈ l, a.w.m.pl.length ≤ 1000000) (hpd : -9223372036854775808 ≤ pd ∧ pd ≤ 9223372036854775000)
 (hd : n = (Jb.due now (l.map TW.w)).length) (b off : Nat) (hAe : A = some ⟨b, off, none⟩) : Calls Tryz.prog 102 #[.agg #[.int .i64 le, .int .i64 mo, .int .i64 nw, .bool on, .int .i64 ze, .int .i64 fi, .int .i64 hi, .int .i64 dn, .int .i64 sp, .int .i64 tr, .slice A n qc, .int .i64 la, .int .i64 tw, .int .i64 pd], .int .i64 now] w (RunR le mo on ze fi hi dn sp tr (l.map TW.w) la tw pd now w) := by
 subst hn
 unfold maxLen at hcm
 subst hAe
 have h5 : (l.length : Int) ≤ (qc : Int) := by omega
 have hR : firstLate now (l.map TW.w) = -1 := by unfold firstLate; rw [← hd, if_pos (by simp)]
 obtain ⟨W0, hW0⟩ : ∃ W0, W0 = ((w.alloc (.cells #[.int .i64 le, .int .i64 mo, .int .i64 nw, .bool on, .int .i64 ze, .int .i64 fi, .int .i64 hi, .int .i64 dn, .int .i64 sp, .int .i64 tr, .slice (some ⟨b, off, none⟩) l.length qc, .int .i64 la, .int .i64 tw, .int .i64 pd] 40)).alloc (.cells #[.int .i64 now] 3)).alloc (.cells #[.int .i64 0, .int .i64 0, .int .i64 0, .bool false, .int .i64 0, .int .i64 0, .int .i64 0, .int .i64 0, .int .i64 0, .int .i64 0, .slice none 0 0, .int .i64 0, .int .i64 0, .int .i64 0] 40) := ⟨_, rfl⟩
 have hU0 : Bel w W0 := by rw [hW0]; exact (((Bel.refl w).push _).push _).push _
 have hB0 : Blk W0 w.heap.size 40 #[.int .i64 le, .int .i64 mo, .int .i64 nw, .bool on, .int .i64 ze, .int .i64 fi, .int .i64 hi, .int .i64 dn, .int .i64 sp, .int .i64 tr, .slice (some ⟨b, off, none⟩) l.length qc, .int .i64 la, .int .i64 tw, .int .i64 pd] := by rw [hW0]; exact ((Blk.new w _ _).push _).push _
 have hB1 : Blk W0 (w.heap.size + 1) 3 #[.int .i64 now] := by rw [hW0]; exact (Blk.new1 w _ _ _).push _
 have hB2 : Blk W0 (w.heap.size + 1 + 1) 40 #[.int .i64 0, .int .i64 0, .int .i64 0, .bool false, .int .i64 0, .int .i64 0, .int .i64 0, .int .i64 0, .int .i64 0, .int .i64 0, .slice none 0 0, .int .i64 0, .int .i64 0, .int .i64 0] := by rw [hW0]; have := Blk.new ((w.alloc (.cells #[.int .i64 le, .int .i64 mo, .int .i64 nw, .bool on, .int .i64 ze, .int .i64 fi, .int .i64 hi, .int .i64 dn, .int .i64 sp, .int .i64 tr, .slice (some ⟨b, off, none⟩) l.length qc, .int .i64 la, .int .i64 tw, .int .i64 pd] 40)).alloc (.cells #[.int .i64 now] 3)) 40 #[.int .i64 0, .int .i64 0, .int .i64 0, .bool false, .int .i64 0, .int .i64 0, .int .i64 0, .int .i64 0, .int .i64 0, .int .i64 0, .slice none 0 0, .int .i64 0, .int .i64 0, .int .i64 0]; rw [zal] at this; exact this
 have hA0 : Wts W0 W0.heap.size (some ⟨b, off, none⟩) l := (hA.below hU0).more hU0.size
 have k1 := zdg (some ⟨b, off, none⟩) l l.length qc (w.heap.size + 1) now W0 rfl (by omega) hA0 (hB1.at 0 _ rfl) hB1.lt
 rw [hR] at k1
 rw [hW0] at k1
 have K1 := H9 k1
 have HW0 := H9 hW0
 have U0 := H9 hU0
 have BS := H9 hB0
 have BN := H9 hB1
 have BR := H9 hB2
 have HA := H9 hA0
 have HP := H9 hp
 have HD := H9 hd
 clear k1 hW0 hU0 hB0 hB1 hB2 hA0 hp hA hd hR
 by_cases hq : qc = l.length
 · subst hq
   go_enter Tryz.func102, Tryz.ntmps102
   go_wp2_with fail
   refine K1.out.mono ?_
   rw [← HW0.out]
   rintro e w1 ⟨rfl, hb1⟩
   have U1 := H9 (U0.out.later hb1)
   have BS1 := H9 (BS.out.later hb1)
   have BN1 := H9 (BN.out.later hb1)
   have BR1 := H9 (BR.out.later hb1)
   have HA1 := H9 (HA.out.later hb1)
   have g10 := BS1.out.at 10 _ rfl
   clear hb1 K1 HW0 U0 BS BN BR HA
   have HQ := H9 (zgg now (l.map TW.w))
   rw [← HD.out] at HQ
   have HPT := H9 (fun (a : TW) (ha : a ∈ l.take l.length) => HP.out a (List.mem_of_mem_take ha))
   have HPD := H9 (fun (a : TW) (ha : a ∈ l.drop l.length) => HP.out a (List.mem_of_mem_drop ha))
   have k2 := H9 (zar (some ⟨b, off, none⟩) (l.take l.length) l.length l.length w1 w1.heap.size (Nat.le_refl _) (by simp) (by omega) (HA1.out.take l.length) HPT.out (Jb.due now (l.map TW.w)) (by rw [HQ.out.1, List.map_take]))
   go_wp2_with fail
   refine k2.out.mono ?_
   rintro e w2 ⟨A1, c1, l1, rfl, hm1, hq1, hb2⟩
   have HM1 := H9 hm1
   have Q1 := H9 hq1.wtsIn
   have HL1 := H9 hq1.len
   have HCA : Hid (l1.length ≤ c1 ∧ c1 ≤ maxLen) := H9 ⟨by rw [hq1.len]; exact hq1.own.cap, Owns.capm hq1.own⟩
   have U2 := H9 (U1.out.later hb2)
   have BS2 := H9 (BS1.out.later hb2)
   have BN2 := H9 (BN1.out.later hb2)
   have BR2 := H9 (BR1.out.later hb2)
   have HA2 := H9 (HA1.out.later hb2)
   have hs1 := BR1.out.lt
   have hs2 := hb2.size
   have k3 := H9 fun (A9 : Option Addr) (c9 : Nat) => (zar A9 [] 0 c9 w2 w2.heap.size (Nat.le_refl _) rfl (by omega) Wts.empty (fun _ h => by cases h) (Jb.left now (l.map TW.w)) (by rw [HQ.out.2, List.drop_of_length_le (by simp)]; rfl))
   clear hb2 hm1 hq1 U1 BS1 BN1 BR1 HA1 k2
   clear g10
   have g10 := BS2.out.at 10 _ rfl
   go_wp2_with fail
   refine (k3.out _ _).mono ?_
   rintro e w3 ⟨A2, c2, l2, rfl, hm2, hq2, hb3⟩
   have HM2 := H9 hm2
   have Q2 := H9 hq2
   have Q1' := H9 (Q1.out.below hb3 (Nat.le_refl _))
   have U3 := H9 (U2.out.later hb3)
   have BS3 := H9 (BS2.out.later hb3)
   have BN3 := H9 (BN2.out.later hb3)
   have BR3 := H9 (BR2.out.later hb3)
   have hs3 := hb3.size
   clear hb3 hm2 hq2 U2 BS2 BN2 BR2 HA2 k3 Q1 g10
   have f13 := BS3.out.at 13 _ rfl
   have f10 := BS3.out.at 10 _ rfl
   have fz := BS3.out.frozen
   go_wp2_with fail
   go_loopg [38] l.length (fun gk i wr => ∃ k : Nat, gk + k = l.length ∧ i = .int .i64 k ∧ Hid (Blk wr w.heap.size 40 #[.int .i64 le, .int .i64 mo, .int .i64 nw, .bool on, .int .i64 ze, .int .i64 fi, .int .i64 hi, .int .i64 (Jb.maxSq dn ((Jb.due now (l.map TW.w)).take k)), .int .i64 sp, .int .i64 tr, .slice A2 0 c2, .int .i64 la, .int .i64 tw, .int .i64 (pd + l.length)]) ∧ Hid (Blk wr (w.heap.size + 1) 3 #[.int .i64 now]) ∧ Hid (Blk wr (w.heap.size + 1 + 1) 40 #[.int .i64 0, .int .i64 0, .int .i64 0, .bool false, .int .i64 0, .int .i64 0, .int .i64 0, .int .i64 0, .int .i64 0, .int .i64 0, .slice none 0 0, .int .i64 0, .int .i64 0, .int .i64 0]) ∧ Hid (WtsIn wr w1.heap.size w2.heap.size A1 l1) ∧ Hid (QOwn wr w2.heap.size A2 0 c2 l2) ∧ Hid (Bel w wr) ∧ Hid (w2.heap.size ≤ wr.heap.size))
   case atStart =>
    refine ⟨0, rfl, rfl, H9 ?_, H9 ?_, H9 ?_, H9 ?_, H9 ?_, H9 ?_, H9 ?_⟩
    · exact (BS3.out.set_ 10 (.slice A2 0 c2)).set_ 13 (.int .i64 (pd + l.length))
    · exact (BN3.out.far (by simp) _).far (by simp) _
    · exact (BR3.out.far (by simp; omega) _).far (by simp; omega) _
    · exact (Q1'.out.setCell (by simp; omega) _).setCell (by simp; omega) _
    · exact (Q2.out.setCell (by simp; omega) _).setCell (by simp; omega) _
    · exact zai (zai U3.out (Nat.le_refl _) _) (Nat.le_refl _) _
    · simpa [World.setCell] using hs3
   case round =>
    obtain ⟨k, hgk, rfl, BSr, BNr, BRr, W1r, Q2r, Ur, HSr⟩ := hrel
    have hi0 : (0 : Int) ≤ (k : Int) := by omega
    have hz0 := BSr.out.lt
    have fzr := BSr.out.frozen
    by_cases hk : k < l.length
    rotate_left
    · obtain rfl : k = l.length := by omega
      have hi1 : (l.length : Int) ≤ (l.length : Int) := Int.le_refl _
      have p0 := BSr.out.at 0 _ rfl
      have p1 := BSr.out.at 1 _ rfl
      have p2 := BSr.out.at 2 _ rfl
      have p3 := BSr.out.at 3 _ rfl
      have p4 := BSr.out.at 4 _ rfl
      have p5 := BSr.out.at 5 _ rfl
      have p6 := BSr.out.at 6 _ rfl
      have p7 := BSr.out.at 7 _ rfl
      have p8 := BSr.out.at 8 _ rfl
      have p9 := BSr.out.at 9 _ rfl
      have p10 := BSr.out.at 10 _ rfl
      have p11 := BSr.out.at 11 _ rfl
      have p12 := BSr.out.at 12 _ rfl
      have p13 := BSr.out.at 13 _ rfl
      have r0 := BRr.out.at 0 _ rfl
      have r1 := BRr.out.at 1 _ rfl
      have r2 := BRr.out.at 2 _ rfl
      have r3 := BRr.out.at 3 _ rfl
      have r4 := BRr.out.at 4 _ rfl
      have r5 := BRr.out.at 5 _ rfl
      have r6 := BRr.out.at 6 _ rfl
      have r7 := BRr.out.at 7 _ rfl
      have r8 := BRr.out.at 8 _ rfl
      have r9 := BRr.out.at 9 _ rfl
      have r10 := BRr.out.at 10 _ rfl
      have r11 := BRr.out.at 11 _ rfl
      have r12 := BRr.out.at 12 _ rfl
      have r13 := BRr.out.at 13 _ rfl
      have n0 := BNr.out.at 0 _ rfl
      have rfz := BRr.out.frozen
      go_wp2_with fail
      have htk : (Jb.due now (l.map TW.w)).take l.length = Jb.due now (l.map TW.w) := List.take_of_length_le (Nat.le_of_eq HD.out.symm)
      rw [htk]
      have BF := Blk.setRow (BRr.out.far (p := ⟨w.heap.size, 2, none⟩) (by simp; omega) (.int .i64 now)) [.int .i64 le, .int .i64 mo, .int .i64 now, .bool on, .int .i64 ze, .int .i64 fi, .int .i64 hi, .int .i64 (Jb.maxSq dn (Jb.due now (l.map TW.w))), .int .i64 sp, .int .i64 tr, .slice A2 0 c2, .int .i64 la, .int .i64 tw, .int .i64 (pd + l.length)] rfl
      have QF := QOwn.setRow (g := w.heap.size + 1 + 1) (by omega) [.int .i64 le, .int .i64 mo, .int .i64 now, .bool on, .int .i64 ze, .int .i64 fi, .int .i64 hi, .int .i64 (Jb.maxSq dn (Jb.due now (l.map TW.w))), .int .i64 sp, .int .i64 tr, .slice A2 0 c2, .int .i64 la, .int .i64 tw, .int .i64 (pd + l.length)] _ 0 (Q2r.out.setCell (p := ⟨w.heap.size, 2, none⟩) (by simp; omega) (.int .i64 now))
      have WF := WtsIn.setRow (g := w.heap.size + 1 + 1) (by omega) [.int .i64 le, .int .i64 mo, .int .i64 now, .bool on, .int .i64 ze, .int .i64 fi, .int .i64 hi, .int .i64 (Jb.maxSq dn (Jb.due now (l.map TW.w))), .int .i64 sp, .int .i64 tr, .slice A2 0 c2, .int .i64 la, .int .i64 tw, .int .i64 (pd + l.length)] _ 0 (W1r.out.setCell (p := ⟨w.heap.size, 2, none⟩) (by simp; omega) (.int .i64 now))
      have UF := below_setRow (g := w.heap.size + 1 + 1) (by omega) [.int .i64 le, .int .i64 mo, .int .i64 now, .bool on, .int .i64 ze, .int .i64 fi, .int .i64 hi, .int .i64 (Jb.maxSq dn (Jb.due now (l.map TW.w))), .int .i64 sp, .int .i64 tr, .slice A2 0 c2, .int .i64 la, .int .i64 tw, .int .i64 (pd + l.length)] _ 0 (zai (p := ⟨w.heap.size, 2, none⟩) Ur.out (Nat.le_refl _) (.int .i64 now))
      have SF := zas (w.heap.size + 1 + 1) [.int .i64 le, .int .i64 mo, .int .i64 now, .bool on, .int .i64 ze, .int .i64 fi, .int .i64 hi, .int .i64 (Jb.maxSq dn (Jb.due now (l.map TW.w))), .int .i64 sp, .int .i64 tr, .slice A2 0 c2, .int .i64 la, .int .i64 tw, .int .i64 (pd + l.length)] (wr.setCell ⟨w.heap.size, 2, none⟩ (.int .i64 now)) 0
      obtain ⟨W, hW⟩ : ∃ W, W = setRow (w.heap.size + 1 + 1) (wr.setCell ⟨w.heap.size, 2, none⟩ (.int .i64 now)) 0 [.int .i64 le, .int .i64 mo, .int .i64 now, .bool on, .int .i64 ze, .int .i64 fi, .int .i64 hi, .int .i64 (Jb.maxSq dn (Jb.due now (l.map TW.w))), .int .i64 sp, .int .i64 tr, .slice A2 0 c2, .int .i64 la, .int .i64 tw, .int .i64 (pd + l.length)] := ⟨_, rfl⟩
      rw [← hW] at BF QF WF UF SF
      simp only [setRow, Nat.zero_add, Nat.reduceAdd] at hW
      rw [← hW]
      have hl2 : l2.length = 0 := Q2r.out.len
      have hl1 : l1.length = l.length := HL1.out
      rw [← hl2] at BF QF
      exact bodyPost_ret (v := .tuple #[.agg (List.toArray [.int .i64 le, .int .i64 mo, .int .i64 now, .bool on, .int .i64 ze, .int .i64 fi, .int .i64 hi, .int .i64 (Jb.maxSq dn (Jb.due now (l.map TW.w))), .int .i64 sp, .int .i64 tr, .slice A2 l2.length c2, .int .i64 la, .int .i64 tw, .int .i64 (pd + l.length)]), .slice A1 l.length c1]) (zat Tryz.results102 rfl (run_loadVar_row (P := Tryz.prog) _ _ _ _ _ _ _ BF Tryz.underlying40 rfl (by kernel_rfl)) rfl) rfl ⟨A1, c1, l1, A2, c2, l2, w2.heap.size, by rw [hl1, ← HD.out], HM1.out, HM2.out, WF.less (by omega), QF, by omega, by have := HSr.out; rw [SF]; simpa [World.setCell] using this, HCA.out, UF⟩
    have hi1 : (k : Int) < (l.length : Int) := by omega
    have hl1 : l1.length = l.length := HL1.out
    obtain ⟨a, ha⟩ : ∃ a, l1[k]? = some a := ⟨_, List.getElem?_eq_getElem (by omega)⟩
    obtain ⟨b9, off9, rfl, hbB, e0, e1, e2, e3, e4, e5⟩ := zcj W1r.out.rows.1 ha
    have hm : (Jb.due now (l.map TW.w))[k]? = some a.w := by rw [← HM1.out, List.getElem?_map, ha]; rfl
    have HM := H9 hm
    obtain ⟨⟨at0, ⟨sq0, ti0, mk0, ty0, pl0⟩⟩, B0, c0⟩ := a
    simp only at e0 e1 e2 e3 e4 e5 HM
    have hbw : b9 < wr.heap.size := Nat.lt_of_lt_of_le hbB HSr.out
    have p7 := BSr.out.at 7 _ rfl
    clear ha hm hl1
    go_wp2_with fail
    go_roundg (gk - 1)
    case measure => omega
    case rel =>
     refine ⟨k + 1, by omega, by go_num, H9 ?_, H9 ?_, H9 ?_, H9 ?_, H9 ?_, H9 ?_, H9 ?_⟩
     · rw [List.take_add_one, HM.out]
       simp only [Option.toList_some]
       rw [zdu]
       exact (BSr.out.set_ 7 _).push _
     · exact (BNr.out.far (by simp) _).push _
     · exact (BRr.out.far (by simp; omega) _).push _
     · exact (W1r.out.setCell (by simp; omega) _).below ((Below.refl _ _).alloc (Nat.le_refl _) _) (by have := HSr.out; simpa [World.setCell] using this)
     · exact (Q2r.out.setCell (by simp; omega) _).push _
     · exact Bel.push (zai Ur.out (Nat.le_refl _) _) _
     · have := HSr.out; simp [World.setCell]; omega
 go_enter Tryz.func102, Tryz.ntmps102
 go_wp2_with fail
 refine K1.out.mono ?_
 rw [← HW0.out]
 rintro e w1 ⟨rfl, hb1⟩
 have U1 := H9 (U0.out.later hb1)
 have BS1 := H9 (BS.out.later hb1)
 have BN1 := H9 (BN.out.later hb1)
 have BR1 := H9 (BR.out.later hb1)
 have HA1 := H9 (HA.out.later hb1)
 have g10 := BS1.out.at 10 _ rfl
 clear hb1 K1 HW0 U0 BS BN BR HA
 have HQ := H9 (zgg now (l.map TW.w))
 rw [← HD.out] at HQ
 have HPT := H9 (fun (a : TW) (ha : a ∈ l.take l.length) => HP.out a (List.mem_of_mem_take ha))
 have HPD := H9 (fun (a : TW) (ha : a ∈ l.drop l.length) => HP.out a (List.mem_of_mem_drop ha))
 have k2 := H9 (zar (some ⟨b, off, none⟩) (l.take l.length) l.length l.length w1 w1.heap.size (Nat.le_refl _) (by simp) (by omega) (HA1.out.take l.length) HPT.out (Jb.due now (l.map TW.w)) (by rw [HQ.out.1, List.map_take]))
 go_wp2_with fail
 refine k2.out.mono ?_
 rintro e w2 ⟨A1, c1, l1, rfl, hm1, hq1, hb2⟩
 have HM1 := H9 hm1
 have Q1 := H9 hq1.wtsIn
 have HL1 := H9 hq1.len
 have HCA : Hid (l1.length ≤ c1 ∧ c1 ≤ maxLen) := H9 ⟨by rw [hq1.len]; exact hq1.own.cap, Owns.capm hq1.own⟩
 have U2 := H9 (U1.out.later hb2)
 have BS2 := H9 (BS1.out.later hb2)
 have BN2 := H9 (BN1.out.later hb2)
 have BR2 := H9 (BR1.out.later hb2)
 have HA2 := H9 (HA1.out.later hb2)
 have hs1 := BR1.out.lt
 have hs2 := hb2.size
 have k3 := H9 fun (A9 : Option Addr) (c9 : Nat) => (zar A9 [] 0 c9 w2 w2.heap.size (Nat.le_refl _) rfl (by omega) Wts.empty (fun _ h => by cases h) (Jb.left now (l.map TW.w)) (by rw [HQ.out.2, List.drop_of_length_le (by simp)]; rfl))
 clear hb2 hm1 hq1 U1 BS1 BN1 BR1 HA1 k2
 clear g10
 have g10 := BS2.out.at 10 _ rfl
 go_wp2_with fail
 refine (k3.out _ _).mono ?_
 rintro e w3 ⟨A2, c2, l2, rfl, hm2, hq2, hb3⟩
 have HM2 := H9 hm2
 have Q2 := H9 hq2
 have Q1' := H9 (Q1.out.below hb3 (Nat.le_refl _))
 have U3 := H9 (U2.out.later hb3)
 have BS3 := H9 (BS2.out.later hb3)
 have BN3 := H9 (BN2.out.later hb3)
 have BR3 := H9 (BR2.out.later hb3)
 have hs3 := hb3.size
 clear hb3 hm2 hq2 U2 BS2 BN2 BR2 HA2 k3 Q1 g10
 have f13 := BS3.out.at 13 _ rfl
 have f10 := BS3.out.at 10 _ rfl
 have fz := BS3.out.frozen
 go_wp2_with fail
 go_loopg [38] l.length (fun gk i wr => ∃ k : Nat, gk + k = l.length ∧ i = .int .i64 k ∧ Hid (Blk wr w.heap.size 40 #[.int .i64 le, .int .i64 mo, .int .i64 nw, .bool on, .int .i64 ze, .int .i64 fi, .int .i64 hi, .int .i64 (Jb.maxSq dn ((Jb.due now (l.map TW.w)).take k)), .int .i64 sp, .int .i64 tr, .slice A2 0 c2, .int .i64 la, .int .i64 tw, .int .i64 (pd + l.length)]) ∧ Hid (Blk wr (w.heap.size + 1) 3 #[.int .i64 now]) ∧ Hid (Blk wr (w.heap.size + 1 + 1) 40 #[.int .i64 0, .int .i64 0, .int .i64 0, .bool false, .int .i64 0, .int .i64 0, .int .i64 0, .int .i64 0, .int .i64 0, .int .i64 0, .slice none 0 0, .int .i64 0, .int .i64 0, .int .i64 0]) ∧ Hid (WtsIn wr w1.heap.size w2.heap.size A1 l1) ∧ Hid (QOwn wr w2.heap.size A2 0 c2 l2) ∧ Hid (Bel w wr) ∧ Hid (w2.heap.size ≤ wr.heap.size))
 case atStart =>
  refine ⟨0, rfl, rfl, H9 ?_, H9 ?_, H9 ?_, H9 ?_, H9 ?_, H9 ?_, H9 ?_⟩
  · exact (BS3.out.set_ 10 (.slice A2 0 c2)).set_ 13 (.int .i64 (pd + l.length))
  · exact (BN3.out.far (by simp) _).far (by simp) _
  · exact (BR3.out.far (by simp; omega) _).far (by simp; omega) _
  · exact (Q1'.out.setCell (by simp; omega) _).setCell (by simp; omega) _
  · exact (Q2.out.setCell (by simp; omega) _).setCell (by simp; omega) _
  · exact zai (zai U3.out (Nat.le_refl _) _) (Nat.le_refl _) _
  · simpa [World.setCell] using hs3
 case round =>
  obtain ⟨k, hgk, rfl, BSr, BNr, BRr, W1r, Q2r, Ur, HSr⟩ := hrel
  have hi0 : (0 : Int) ≤ (k : Int) := by omega
  have hz0 := BSr.out.lt
  have fzr := BSr.out.frozen
  by_cases hk : k < l.length
  rotate_left
  · obtain rfl : k = l.length := by omega
    have hi1 : (l.length : Int) ≤ (l.length : Int) := Int.le_refl _
    have p0 := BSr.out.at 0 _ rfl
    have p1 := BSr.out.at 1 _ rfl
    have p2 := BSr.out.at 2 _ rfl
    have p3 := BSr.out.at 3 _ rfl
    have p4 := BSr.out.at 4 _ rfl
    have p5 := BSr.out.at 5 _ rfl
    have p6 := BSr.out.at 6 _ rfl
    have p7 := BSr.out.at 7 _ rfl
    have p8 := BSr.out.at 8 _ rfl
    have p9 := BSr.out.at 9 _ rfl
    have p10 := BSr.out.at 10 _ rfl
    have p11 := BSr.out.at 11 _ rfl
    have p12 := BSr.out.at 12 _ rfl
    have p13 := BSr.out.at 13 _ rfl
    have r0 := BRr.out.at 0 _ rfl
    have r1 := BRr.out.at 1 _ rfl
    have r2 := BRr.out.at 2 _ rfl
    have r3 := BRr.out.at 3 _ rfl
    have r4 := BRr.out.at 4 _ rfl
    have r5 := BRr.out.at 5 _ rfl
    have r6 := BRr.out.at 6 _ rfl
    have r7 := BRr.out.at 7 _ rfl
    have r8 := BRr.out.at 8 _ rfl
    have r9 := BRr.out.at 9 _ rfl
    have r10 := BRr.out.at 10 _ rfl
    have r11 := BRr.out.at 11 _ rfl
    have r12 := BRr.out.at 12 _ rfl
    have r13 := BRr.out.at 13 _ rfl
    have n0 := BNr.out.at 0 _ rfl
    have rfz := BRr.out.frozen
    go_wp2_with fail
    have htk : (Jb.due now (l.map TW.w)).take l.length = Jb.due now (l.map TW.w) := List.take_of_length_le (Nat.le_of_eq HD.out.symm)
    rw [htk]
    have BF := Blk.setRow (BRr.out.far (p := ⟨w.heap.size, 2, none⟩) (by simp; omega) (.int .i64 now)) [.int .i64 le, .int .i64 mo, .int .i64 now, .bool on, .int .i64 ze, .int .i64 fi, .int .i64 hi, .int .i64 (Jb.maxSq dn (Jb.due now (l.map TW.w))), .int .i64 sp, .int .i64 tr, .slice A2 0 c2, .int .i64 la, .int .i64 tw, .int .i64 (pd + l.length)] rfl
    have QF := QOwn.setRow (g := w.heap.size + 1 + 1) (by omega) [.int .i64 le, .int .i64 mo, .int .i64 now, .bool on, .int .i64 ze, .int .i64 fi, .int .i64 hi, .int .i64 (Jb.maxSq dn (Jb.due now (l.map TW.w))), .int .i64 sp, .int .i64 tr, .slice A2 0 c2, .int .i64 la, .int .i64 tw, .int .i64 (pd + l.length)] _ 0 (Q2r.out.setCell (p := ⟨w.heap.size, 2, none⟩) (by simp; omega) (.int .i64 now))
    have WF := WtsIn.setRow (g := w.heap.size + 1 + 1) (by omega) [.int .i64 le, .int .i64 mo, .int .i64 now, .bool on, .int .i64 ze, .int .i64 fi, .int .i64 hi, .int .i64 (Jb.maxSq dn (Jb.due now (l.map TW.w))), .int .i64 sp, .int .i64 tr, .slice A2 0 c2, .int .i64 la, .int .i64 tw, .int .i64 (pd + l.length)] _ 0 (W1r.out.setCell (p := ⟨w.heap.size, 2, none⟩) (by simp; omega) (.int .i64 now))
    have UF := below_setRow (g := w.heap.size + 1 + 1) (by omega) [.int .i64 le, .int .i64 mo, .int .i64 now, .bool on, .int .i64 ze, .int .i64 fi, .int .i64 hi, .int .i64 (Jb.maxSq dn (Jb.due now (l.map TW.w))), .int .i64 sp, .int .i64 tr, .slice A2 0 c2, .int .i64 la, .int .i64 tw, .int .i64 (pd + l.length)] _ 0 (zai (p := ⟨w.heap.size, 2, none⟩) Ur.out (Nat.le_refl _) (.int .i64 now))
    have SF := zas (w.heap.size + 1 + 1) [.int .i64 le, .int .i64 mo, .int .i64 now, .bool on, .int .i64 ze, .int .i64 fi, .int .i64 hi, .int .i64 (Jb.maxSq dn (Jb.due now (l.map TW.w))), .int .i64 sp, .int .i64 tr, .slice A2 0 c2, .int .i64 la, .int .i64 tw, .int .i64 (pd + l.length)] (wr.setCell ⟨w.heap.size, 2, none⟩ (.int .i64 now)) 0
    obtain ⟨W, hW⟩ : ∃ W, W = setRow (w.heap.size + 1 + 1) (wr.setCell ⟨w.heap.size, 2, none⟩ (.int .i64 now)) 0 [.int .i64 le, .int .i64 mo, .int .i64 now, .bool on, .int .i64 ze, .int .i64 fi, .int .i64 hi, .int .i64 (Jb.maxSq dn (Jb.due now (l.map TW.w))), .int .i64 sp, .int .i64 tr, .slice A2 0 c2, .int .i64 la, .int .i64 tw, .int .i64 (pd + l.length)] := ⟨_, rfl⟩
    rw [← hW] at BF QF WF UF SF
    simp only [setRow, Nat.zero_add, Nat.reduceAdd] at hW
    rw [← hW]
    have hl2 : l2.length = 0 := Q2r.out.len
    have hl1 : l1.length = l.length := HL1.out
    rw [← hl2] at BF QF
    exact bodyPost_ret (v := .tuple #[.agg (List.toArray [.int .i64 le, .int .i64 mo, .int .i64 now, .bool on, .int .i64 ze, .int .i64 fi, .int .i64 hi, .int .i64 (Jb.maxSq dn (Jb.due now (l.map TW.w))), .int .i64 sp, .int .i64 tr, .slice A2 l2.length c2, .int .i64 la, .int .i64 tw, .int .i64 (pd + l.length)]), .slice A1 l.length c1]) (zat Tryz.results102 rfl (run_loadVar_row (P := Tryz.prog) _ _ _ _ _ _ _ BF Tryz.underlying40 rfl (by kernel_rfl)) rfl) rfl ⟨A1, c1, l1, A2, c2, l2, w2.heap.size, by rw [hl1, ← HD.out], HM1.out, HM2.out, WF.less (by omega), QF, by omega, by have := HSr.out; rw [SF]; simpa [World.setCell] using this, HCA.out, UF⟩
  have hi1 : (k : Int) < (l.length : Int) := by omega
  have hl1 : l1.length = l.length := HL1.out
  obtain ⟨a, ha⟩ : ∃ a, l1[k]? = some a := ⟨_, List.getElem?_eq_getElem (by omega)⟩
  obtain ⟨b9, off9, rfl, hbB, e0, e1, e2, e3, e4, e5⟩ := zcj W1r.out.rows.1 ha
  have hm : (Jb.due now (l.map TW.w))[k]? = some a.w := by rw [← HM1.out, List.getElem?_map, ha]; rfl
  have HM := H9 hm
  obtain ⟨⟨at0, ⟨sq0, ti0, mk0, ty0, pl0⟩⟩, B0, c0⟩ := a
  simp only at e0 e1 e2 e3 e4 e5 HM
  have hbw : b9 < wr.heap.size := Nat.lt_of_lt_of_le hbB HSr.out
  have p7 := BSr.out.at 7 _ rfl
  clear ha hm hl1
  go_wp2_with fail
  go_roundg (gk - 1)
  case measure => omega
  case rel =>
   refine ⟨k + 1, by omega, by go_num, H9 ?_, H9 ?_, H9 ?_, H9 ?_, H9 ?_, H9 ?_, H9 ?_⟩
   · rw [List.take_add_one, HM.out]
     simp only [Option.toList_some]
     rw [zdu]
     exact (BSr.out.set_ 7 _).push _
   · exact (BNr.out.far (by simp) _).push _
   · exact (BRr.out.far (by simp; omega) _).push _
   · exact (W1r.out.setCell (by simp; omega) _).below ((Below.refl _ _).alloc (Nat.le_refl _) _) (by have := HSr.out; simpa [World.setCell] using this)
   · exact (Q2r.out.setCell (by simp; omega) _).push _
   · exact Bel.push (zai Ur.out (Nat.le_refl _) _) _
   · have := HSr.out; simp [World.setCell]; omega
theorem zrp (le mo nw : Int) (on : Bool) (ze fi hi dn sp tr : Int) (qc : Nat) (la tw pd now : Int) (w : World) (hpd : -9223372036854775808 ≤ pd ∧ pd ≤ 9223372036854775000) : Calls Tryz.prog 102 #[.agg #[.int .i64 le, .int .i64 mo, .int .i64 nw, .bool on, .int .i64 ze, .int .i64 fi, .int .i64 hi, .int .i64 dn, .int .i64 sp, .int .i64 tr, .slice none 0 qc, .int .i64 la, .int .i64 tw, .int .i64 pd], .int .i64 now] w (RunR le mo on ze fi hi dn sp tr [] la tw pd now w) := by
 have hR : firstLate now (([] : List TW).map TW.w) = -1 := rfl
 have hA : Wts w w.heap.size none [] := Wts.empty
 obtain ⟨W0, hW0⟩ : ∃ W0, W0 = ((w.alloc (.cells #[.int .i64 le, .int .i64 mo, .int .i64 nw, .bool on, .int .i64 ze, .int .i64 fi, .int .i64 hi, .int .i64 dn, .int .i64 sp, .int .i64 tr, .slice none 0 qc, .int .i64 la, .int .i64 tw, .int .i64 pd] 40)).alloc (.cells #[.int .i64 now] 3)).alloc (.cells #[.int .i64 0, .int .i64 0, .int .i64 0, .bool false, .int .i64 0, .int .i64 0, .int .i64 0, .int .i64 0, .int .i64 0, .int .i64 0, .slice none 0 0, .int .i64 0, .int .i64 0, .int .i64 0] 40) := ⟨_, rfl⟩
 have hU0 : Bel w W0 := by rw [hW0]; exact (((Bel.refl w).push _).push _).push _
 have hB0 : Blk W0 w.heap.size 40 #[.int .i64 le, .int .i64 mo, .int .i64 nw, .bool on, .int .i64 ze, .int .i64 fi, .int .i64 hi, .int .i64 dn, .int .i64 sp, .int .i64 tr, .slice none 0 qc, .int .i64 la, .int .i64 tw, .int .i64 pd] := by rw [hW0]; exact ((Blk.new w _ _).push _).push _
 have hB1 : Blk W0 (w.heap.size + 1) 3 #[.int .i64 now] := by rw [hW0]; exact (Blk.new1 w _ _ _).push _
 have hB2 : Blk W0 (w.heap.size + 1 + 1) 40 #[.int .i64 0, .int .i64 0, .int .i64 0, .bool false, .int .i64 0, .int .i64 0, .int .i64 0, .int .i64 0, .int .i64 0, .int .i64 0, .slice none 0 0, .int .i64 0, .int .i64 0, .int .i64 0] := by rw [hW0]; have := Blk.new ((w.alloc (.cells #[.int .i64 le, .int .i64 mo, .int .i64 nw, .bool on, .int .i64 ze, .int .i64 fi, .int .i64 hi, .int .i64 dn, .int .i64 sp, .int .i64 tr, .slice none 0 qc, .int .i64 la, .int .i64 tw, .int .i64 pd] 40)).alloc (.cells #[.int .i64 now] 3)) 40 #[.int .i64 0, .int .i64 0, .int .i64 0, .bool false, .int .i64 0, .int .i64 0, .int .i64 0, .int .i64 0, .int .i64 0, .int .i64 0, .slice none 0 0, .int .i64 0, .int .i64 0, .int .i64 0]; rw [zal] at this; exact this
 have hA0 : Wts W0 W0.heap.size none [] := (hA.below hU0).more hU0.size
 have k1 := zdg none [] 0 qc (w.heap.size + 1) now W0 rfl (by omega) hA0 (hB1.at 0 _ rfl) hB1.lt
 rw [hR] at k1
 rw [hW0] at k1
 have K1 := H9 k1
 have HW0 := H9 hW0
 have U0 := H9 hU0
 have BS := H9 hB0
 have BN := H9 hB1
 have BR := H9 hB2
 have HA := H9 hA0
 clear k1 hW0 hU0 hB0 hB1 hB2 hA0 hA hR
 go_enter Tryz.func102, Tryz.ntmps102
 go_wp2_with fail
 refine K1.out.mono ?_
 rw [← HW0.out]
 rintro e w1 ⟨rfl, hb1⟩
 have U1 := H9 (U0.out.later hb1)
 have BS1 := H9 (BS.out.later hb1)
 have BN1 := H9 (BN.out.later hb1)
 have BR1 := H9 (BR.out.later hb1)
 have HA1 := H9 (HA.out.later hb1)
 have g10 := BS1.out.at 10 _ rfl
 clear hb1 K1 HW0 U0 BS BN BR HA
 have k2 := H9 fun (A9 : Option Addr) (c9 : Nat) => (zar A9 [] 0 c9 w1 w1.heap.size (Nat.le_refl _) rfl (by omega) Wts.empty (fun _ h => by cases h) (Jb.due now []) rfl)
 go_wp2_with fail
 refine (k2.out _ _).mono ?_
 rintro e w2 ⟨A1, c1, l1, rfl, hm1, hq1, hb2⟩
 have HM1 := H9 hm1
 have Q1 := H9 hq1.wtsIn
 have HL1 := H9 hq1.len
 have HCA : Hid (l1.length ≤ c1 ∧ c1 ≤ maxLen) := H9 ⟨by rw [hq1.len]; exact hq1.own.cap, Owns.capm hq1.own⟩
 have U2 := H9 (U1.out.later hb2)
 have BS2 := H9 (BS1.out.later hb2)
 have BN2 := H9 (BN1.out.later hb2)
 have BR2 := H9 (BR1.out.later hb2)
 have HA2 := H9 (HA1.out.later hb2)
 have hs1 := BR1.out.lt
 have hs2 := hb2.size
 have k3 := H9 fun (A9 : Option Addr) (c9 : Nat) => (zar A9 [] 0 c9 w2 w2.heap.size (Nat.le_refl _) rfl (by omega) Wts.empty (fun _ h => by cases h) (Jb.left now []) rfl)
 clear hb2 hm1 hq1 U1 BS1 BN1 BR1 HA1 k2
 clear g10
 have g10 := BS2.out.at 10 _ rfl
 go_wp2_with fail
 refine (k3.out _ _).mono ?_
 rintro e w3 ⟨A2, c2, l2, rfl, hm2, hq2, hb3⟩
 have HM2 := H9 hm2
 have Q2 := H9 hq2
 have Q1' := H9 (Q1.out.below hb3 (Nat.le_refl _))
 have U3 := H9 (U2.out.later hb3)
 have BS3 := H9 (BS2.out.later hb3)
 have BN3 := H9 (BN2.out.later hb3)
 have BR3 := H9 (BR2.out.later hb3)
 have hs3 := hb3.size
 clear hb3 hm2 hq2 U2 BS2 BN2 BR2 HA2 k3 Q1 g10
 have f13 := BS3.out.at 13 _ rfl
 have f10 := BS3.out.at 10 _ rfl
 have fz := BS3.out.frozen
 go_wp2_with fail
 go_loopg [38] 0 (fun gk i wr => ∃ k : Nat, gk + k = 0 ∧ i = .int .i64 k ∧ Hid (Blk wr w.heap.size 40 #[.int .i64 le, .int .i64 mo, .int .i64 nw, .bool on, .int .i64 ze, .int .i64 fi, .int .i64 hi, .int .i64 (Jb.maxSq dn (([] : List Jb.Wt))), .int .i64 sp, .int .i64 tr, .slice A2 0 c2, .int .i64 la, .int .i64 tw, .int .i64 pd]) ∧ Hid (Blk wr (w.heap.size + 1) 3 #[.int .i64 now]) ∧ Hid (Blk wr (w.heap.size + 1 + 1) 40 #[.int .i64 0, .int .i64 0, .int .i64 0, .bool false, .int .i64 0, .int .i64 0, .int .i64 0, .int .i64 0, .int .i64 0, .int .i64 0, .slice none 0 0, .int .i64 0, .int .i64 0, .int .i64 0]) ∧ Hid (WtsIn wr w1.heap.size w2.heap.size A1 l1) ∧ Hid (QOwn wr w2.heap.size A2 0 c2 l2) ∧ Hid (Bel w wr) ∧ Hid (w2.heap.size ≤ wr.heap.size))
 case atStart =>
  refine ⟨0, rfl, rfl, H9 ?_, H9 ?_, H9 ?_, H9 ?_, H9 ?_, H9 ?_, H9 ?_⟩
  · exact (BS3.out.set_ 10 (.slice A2 0 c2)).set_ 13 (.int .i64 pd)
  · exact (BN3.out.far (by simp) _).far (by simp) _
  · exact (BR3.out.far (by simp; omega) _).far (by simp; omega) _
  · exact (Q1'.out.setCell (by simp; omega) _).setCell (by simp; omega) _
  · exact (Q2.out.setCell (by simp; omega) _).setCell (by simp; omega) _
  · exact zai (zai U3.out (Nat.le_refl _) _) (Nat.le_refl _) _
  · simpa [World.setCell] using hs3
 case round =>
  obtain ⟨k, hgk, rfl, BSr, BNr, BRr, W1r, Q2r, Ur, HSr⟩ := hrel
  have hi0 : (0 : Int) ≤ (k : Int) := by omega
  have hz0 := BSr.out.lt
  have fzr := BSr.out.frozen
  by_cases hk : k < 0
  rotate_left
  · obtain rfl : k = 0 := by omega
    have hi1 : (0 : Int) ≤ (0 : Int) := Int.le_refl _
    have p0 := BSr.out.at 0 _ rfl
    have p1 := BSr.out.at 1 _ rfl
    have p2 := BSr.out.at 2 _ rfl
    have p3 := BSr.out.at 3 _ rfl
    have p4 := BSr.out.at 4 _ rfl
    have p5 := BSr.out.at 5 _ rfl
    have p6 := BSr.out.at 6 _ rfl
    have p7 := BSr.out.at 7 _ rfl
    have p8 := BSr.out.at 8 _ rfl
    have p9 := BSr.out.at 9 _ rfl
    have p10 := BSr.out.at 10 _ rfl
    have p11 := BSr.out.at 11 _ rfl
    have p12 := BSr.out.at 12 _ rfl
    have p13 := BSr.out.at 13 _ rfl
    have r0 := BRr.out.at 0 _ rfl
    have r1 := BRr.out.at 1 _ rfl
    have r2 := BRr.out.at 2 _ rfl
    have r3 := BRr.out.at 3 _ rfl
    have r4 := BRr.out.at 4 _ rfl
    have r5 := BRr.out.at 5 _ rfl
    have r6 := BRr.out.at 6 _ rfl
    have r7 := BRr.out.at 7 _ rfl
    have r8 := BRr.out.at 8 _ rfl
    have r9 := BRr.out.at 9 _ rfl
    have r10 := BRr.out.at 10 _ rfl
    have r11 := BRr.out.at 11 _ rfl
    have r12 := BRr.out.at 12 _ rfl
    have r13 := BRr.out.at 13 _ rfl
    have n0 := BNr.out.at 0 _ rfl
    have rfz := BRr.out.frozen
    go_wp2_with fail
    have BF := Blk.setRow (BRr.out.far (p := ⟨w.heap.size, 2, none⟩) (by simp; omega) (.int .i64 now)) [.int .i64 le, .int .i64 mo, .int .i64 now, .bool on, .int .i64 ze, .int .i64 fi, .int .i64 hi, .int .i64 (Jb.maxSq dn []), .int .i64 sp, .int .i64 tr, .slice A2 0 c2, .int .i64 la, .int .i64 tw, .int .i64 pd] rfl
    have QF := QOwn.setRow (g := w.heap.size + 1 + 1) (by omega) [.int .i64 le, .int .i64 mo, .int .i64 now, .bool on, .int .i64 ze, .int .i64 fi, .int .i64 hi, .int .i64 (Jb.maxSq dn []), .int .i64 sp, .int .i64 tr, .slice A2 0 c2, .int .i64 la, .int .i64 tw, .int .i64 pd] _ 0 (Q2r.out.setCell (p := ⟨w.heap.size, 2, none⟩) (by simp; omega) (.int .i64 now))
    have WF := WtsIn.setRow (g := w.heap.size + 1 + 1) (by omega) [.int .i64 le, .int .i64 mo, .int .i64 now, .bool on, .int .i64 ze, .int .i64 fi, .int .i64 hi, .int .i64 (Jb.maxSq dn []), .int .i64 sp, .int .i64 tr, .slice A2 0 c2, .int .i64 la, .int .i64 tw, .int .i64 pd] _ 0 (W1r.out.setCell (p := ⟨w.heap.size, 2, none⟩) (by simp; omega) (.int .i64 now))
    have UF := below_setRow (g := w.heap.size + 1 + 1) (by omega) [.int .i64 le, .int .i64 mo, .int .i64 now, .bool on, .int .i64 ze, .int .i64 fi, .int .i64 hi, .int .i64 (Jb.maxSq dn []), .int .i64 sp, .int .i64 tr, .slice A2 0 c2, .int .i64 la, .int .i64 tw, .int .i64 pd] _ 0 (zai (p := ⟨w.heap.size, 2, none⟩) Ur.out (Nat.le_refl _) (.int .i64 now))
    have SF := zas (w.heap.size + 1 + 1) [.int .i64 le, .int .i64 mo, .int .i64 now, .bool on, .int .i64 ze, .int .i64 fi, .int .i64 hi, .int .i64 (Jb.maxSq dn []), .int .i64 sp, .int .i64 tr, .slice A2 0 c2, .int .i64 la, .int .i64 tw, .int .i64 pd] (wr.setCell ⟨w.heap.size, 2, none⟩ (.int .i64 now)) 0
    obtain ⟨W, hW⟩ : ∃ W, W = setRow (w.heap.size + 1 + 1) (wr.setCell ⟨w.heap.size, 2, none⟩ (.int .i64 now)) 0 [.int .i64 le, .int .i64 mo, .int .i64 now, .bool on, .int .i64 ze, .int .i64 fi, .int .i64 hi, .int .i64 (Jb.maxSq dn []), .int .i64 sp, .int .i64 tr, .slice A2 0 c2, .int .i64 la, .int .i64 tw, .int .i64 pd] := ⟨_, rfl⟩
    rw [← hW] at BF QF WF UF SF
    simp only [setRow, Nat.zero_add, Nat.reduceAdd] at hW
    rw [← hW]
    have hl2 : l2.length = 0 := Q2r.out.len
    have hl1 : l1.length = 0 := HL1.out
    rw [← hl2] at BF QF
    exact bodyPost_ret (v := .tuple #[.agg (List.toArray [.int .i64 le, .int .i64 mo, .int .i64 now, .bool on, .int .i64 ze, .int .i64 fi, .int .i64 hi, .int .i64 (Jb.maxSq dn []), .int .i64 sp, .int .i64 tr, .slice A2 l2.length c2, .int .i64 la, .int .i64 tw, .int .i64 pd]), .slice A1 0 c1]) (zat Tryz.results102 rfl (run_loadVar_row (P := Tryz.prog) _ _ _ _ _ _ _ BF Tryz.underlying40 rfl (by kernel_rfl)) rfl) rfl ⟨A1, c1, l1, A2, c2, l2, w2.heap.size, by rw [hl1, show ((Jb.due now []).length : Int) = 0 from rfl, Int.add_zero]; rfl, HM1.out, HM2.out, WF.less (by omega), QF, by omega, by have := HSr.out; rw [SF]; simpa [World.setCell] using this, HCA.out, UF⟩
  exact absurd hk (by omega)
theorem zir (le mo nw : Int) (on : Bool) (ze fi hi dn sp tr : Int) (a : Addr) (qc : Nat) (la tw pd now : Int) (w : World) (hcm : qc ≤ maxLen) (hpd : -9223372036854775808 ≤ pd ∧ pd ≤ 9223372036854775000) : Calls Tryz.prog 102 #[.agg #[.int .i64 le, .int .i64 mo, .int .i64 nw, .bool on, .int .i64 ze, .int .i64 fi, .int .i64 hi, .int .i64 dn, .int .i64 sp, .int .i64 tr, .slice (some a) 0 qc, .int .i64 la, .int .i64 tw, .int .i64 pd], .int .i64 now] w (RunR le mo on ze fi hi dn sp tr [] la tw pd now w) := by
 have hR : firstLate now (([] : List TW).map TW.w) = -1 := rfl
 have hA : Wts w w.heap.size (some a) [] := Wts.empty
 obtain ⟨W0, hW0⟩ : ∃ W0, W0 = ((w.alloc (.cells #[.int .i64 le, .int .i64 mo, .int .i64 nw, .bool on, .int .i64 ze, .int .i64 fi, .int .i64 hi, .int .i64 dn, .int .i64 sp, .int .i64 tr, .slice (some a) 0 qc, .int .i64 la, .int .i64 tw, .int .i64 pd] 40)).alloc (.cells #[.int .i64 now] 3)).alloc (.cells #[.int .i64 0, .int .i64 0, .int .i64 0, .bool false, .int .i64 0, .int .i64 0, .int .i64 0, .int .i64 0, .int .i64 0, .int .i64 0, .slice none 0 0, .int .i64 0, .int .i64 0, .int .i64 0] 40) := ⟨_, rfl⟩
 have hU0 : Bel w W0 := by rw [hW0]; exact (((Bel.refl w).push _).push _).push _
 have hB0 : Blk W0 w.heap.size 40 #[.int .i64 le, .int .i64 mo, .int .i64 nw, .bool on, .int .i64 ze, .int .i64 fi, .int .i64 hi, .int .i64 dn, .int .i64 sp, .int .i64 tr, .slice (some a) 0 qc, .int .i64 la, .int .i64 tw, .int .i64 pd] := by rw [hW0]; exact ((Blk.new w _ _).push _).push _
 have hB1 : Blk W0 (w.heap.size + 1) 3 #[.int .i64 now] := by rw [hW0]; exact (Blk.new1 w _ _ _).push _
 have hB2 : Blk W0 (w.heap.size + 1 + 1) 40 #[.int .i64 0, .int .i64 0, .int .i64 0, .bool false, .int .i64 0, .int .i64 0, .int .i64 0, .int .i64 0, .int .i64 0, .int .i64 0, .slice none 0 0, .int .i64 0, .int .i64 0, .int .i64 0] := by rw [hW0]; have := Blk.new ((w.alloc (.cells #[.int .i64 le, .int .i64 mo, .int .i64 nw, .bool on, .int .i64 ze, .int .i64 fi, .int .i64 hi, .int .i64 dn, .int .i64 sp, .int .i64 tr, .slice (some a) 0 qc, .int .i64 la, .int .i64 tw, .int .i64 pd] 40)).alloc (.cells #[.int .i64 now] 3)) 40 #[.int .i64 0, .int .i64 0, .int .i64 0, .bool false, .int .i64 0, .int .i64 0, .int .i64 0, .int .i64 0, .int .i64 0, .int .i64 0, .slice none 0 0, .int .i64 0, .int .i64 0, .int .i64 0]; rw [zal] at this; exact this
 have hA0 : Wts W0 W0.heap.size (some a) [] := (hA.below hU0).more hU0.size
 have k1 := zdg (some a) [] 0 qc (w.heap.size + 1) now W0 rfl (by omega) hA0 (hB1.at 0 _ rfl) hB1.lt
 rw [hR] at k1
 rw [hW0] at k1
 have K1 := H9 k1
 have HW0 := H9 hW0
 have U0 := H9 hU0
 have BS := H9 hB0
 have BN := H9 hB1
 have BR := H9 hB2
 have HA := H9 hA0
 clear k1 hW0 hU0 hB0 hB1 hB2 hA0 hA hR
 unfold maxLen at hcm
 have h00 : (0 : Int) ≤ (qc : Int) := by omega
 by_cases hq : qc = 0
 · subst hq
   go_enter Tryz.func102, Tryz.ntmps102
   go_wp2_with fail
   refine K1.out.mono ?_
   rw [← HW0.out]
   rintro e w1 ⟨rfl, hb1⟩
   have U1 := H9 (U0.out.later hb1)
   have BS1 := H9 (BS.out.later hb1)
   have BN1 := H9 (BN.out.later hb1)
   have BR1 := H9 (BR.out.later hb1)
   have HA1 := H9 (HA.out.later hb1)
   have g10 := BS1.out.at 10 _ rfl
   clear hb1 K1 HW0 U0 BS BN BR HA
   have k2 := H9 fun (A9 : Option Addr) (c9 : Nat) => (zar A9 [] 0 c9 w1 w1.heap.size (Nat.le_refl _) rfl (by omega) Wts.empty (fun _ h => by cases h) (Jb.due now []) rfl)
   go_wp2_with fail
   refine (k2.out _ _).mono ?_
   rintro e w2 ⟨A1, c1, l1, rfl, hm1, hq1, hb2⟩
   have HM1 := H9 hm1
   have Q1 := H9 hq1.wtsIn
   have HL1 := H9 hq1.len
   have HCA : Hid (l1.length ≤ c1 ∧ c1 ≤ maxLen) := H9 ⟨by rw [hq1.len]; exact hq1.own.cap, Owns.capm hq1.own⟩
   have U2 := H9 (U1.out.later hb2)
   have BS2 := H9 (BS1.out.later hb2)
   have BN2 := H9 (BN1.out.later hb2)
   have BR2 := H9 (BR1.out.later hb2)
   have HA2 := H9 (HA1.out.later hb2)
   have hs1 := BR1.out.lt
   have hs2 := hb2.size
   have k3 := H9 fun (A9 : Option Addr) (c9 : Nat) => (zar A9 [] 0 c9 w2 w2.heap.size (Nat.le_refl _) rfl (by omega) Wts.empty (fun _ h => by cases h) (Jb.left now []) rfl)
   clear hb2 hm1 hq1 U1 BS1 BN1 BR1 HA1 k2
   clear g10
   have g10 := BS2.out.at 10 _ rfl
   go_wp2_with fail
   refine (k3.out _ _).mono ?_
   rintro e w3 ⟨A2, c2, l2, rfl, hm2, hq2, hb3⟩
   have HM2 := H9 hm2
   have Q2 := H9 hq2
   have Q1' := H9 (Q1.out.below hb3 (Nat.le_refl _))
   have U3 := H9 (U2.out.later hb3)
   have BS3 := H9 (BS2.out.later hb3)
   have BN3 := H9 (BN2.out.later hb3)
   have BR3 := H9 (BR2.out.later hb3)
   have hs3 := hb3.size
   clear hb3 hm2 hq2 U2 BS2 BN2 BR2 HA2 k3 Q1 g10
   have f13 := BS3.out.at 13 _ rfl
   have f10 := BS3.out.at 10 _ rfl
   have fz := BS3.out.frozen
   go_wp2_with fail
   go_loopg [38] 0 (fun gk i wr => ∃ k : Nat, gk + k = 0 ∧ i = .int .i64 k ∧ Hid (Blk wr w.heap.size 40 #[.int .i64 le, .int .i64 mo, .int .i64 nw, .bool on, .int .i64 ze, .int .i64 fi, .int .i64 hi, .int .i64 (Jb.maxSq dn (([] : List Jb.Wt))), .int .i64 sp, .int .i64 tr, .slice A2 0 c2, .int .i64 la, .int .i64 tw, .int .i64 pd]) ∧ Hid (Blk wr (w.heap.size + 1) 3 #[.int .i64 now]) ∧ Hid (Blk wr (w.heap.size + 1 + 1) 40 #[.int .i64 0, .int .i64 0, .int .i64 0, .bool false, .int .i64 0, .int .i64 0, .int .i64 0, .int .i64 0, .int .i64 0, .int .i64 0, .slice none 0 0, .int .i64 0, .int .i64 0, .int .i64 0]) ∧ Hid (WtsIn wr w1.heap.size w2.heap.size A1 l1) ∧ Hid (QOwn wr w2.heap.size A2 0 c2 l2) ∧ Hid (Bel w wr) ∧ Hid (w2.heap.size ≤ wr.heap.size))
   case atStart =>
    refine ⟨0, rfl, rfl, H9 ?_, H9 ?_, H9 ?_, H9 ?_, H9 ?_, H9 ?_, H9 ?_⟩
    · exact (BS3.out.set_ 10 (.slice A2 0 c2)).set_ 13 (.int .i64 pd)
    · exact (BN3.out.far (by simp) _).far (by simp) _
    · exact (BR3.out.far (by simp; omega) _).far (by simp; omega) _
    · exact (Q1'.out.setCell (by simp; omega) _).setCell (by simp; omega) _
    · exact (Q2.out.setCell (by simp; omega) _).setCell (by simp; omega) _
    · exact zai (zai U3.out (Nat.le_refl _) _) (Nat.le_refl _) _
    · simpa [World.setCell] using hs3
   case round =>
    obtain ⟨k, hgk, rfl, BSr, BNr, BRr, W1r, Q2r, Ur, HSr⟩ := hrel
    have hi0 : (0 : Int) ≤ (k : Int) := by omega
    have hz0 := BSr.out.lt
    have fzr := BSr.out.frozen
    by_cases hk : k < 0
    rotate_left
    · obtain rfl : k = 0 := by omega
      have hi1 : (0 : Int) ≤ (0 : Int) := Int.le_refl _
      have p0 := BSr.out.at 0 _ rfl
      have p1 := BSr.out.at 1 _ rfl
      have p2 := BSr.out.at 2 _ rfl
      have p3 := BSr.out.at 3 _ rfl
      have p4 := BSr.out.at 4 _ rfl
      have p5 := BSr.out.at 5 _ rfl
      have p6 := BSr.out.at 6 _ rfl
      have p7 := BSr.out.at 7 _ rfl
      have p8 := BSr.out.at 8 _ rfl
      have p9 := BSr.out.at 9 _ rfl
      have p10 := BSr.out.at 10 _ rfl
      have p11 := BSr.out.at 11 _ rfl
      have p12 := BSr.out.at 12 _ rfl
      have p13 := BSr.out.at 13 _ rfl
      have r0 := BRr.out.at 0 _ rfl
      have r1 := BRr.out.at 1 _ rfl
      have r2 := BRr.out.at 2 _ rfl
      have r3 := BRr.out.at 3 _ rfl
      have r4 := BRr.out.at 4 _ rfl
      have r5 := BRr.out.at 5 _ rfl
      have r6 := BRr.out.at 6 _ rfl
      have r7 := BRr.out.at 7 _ rfl
      have r8 := BRr.out.at 8 _ rfl
      have r9 := BRr.out.at 9 _ rfl
      have r10 := BRr.out.at 10 _ rfl
      have r11 := BRr.out.at 11 _ rfl
      have r12 := BRr.out.at 12 _ rfl
      have r13 := BRr.out.at 13 _ rfl
      have n0 := BNr.out.at 0 _ rfl
      have rfz := BRr.out.frozen
      go_wp2_with fail
      have BF := Blk.setRow (BRr.out.far (p := ⟨w.heap.size, 2, none⟩) (by simp; omega) (.int .i64 now)) [.int .i64 le, .int .i64 mo, .int .i64 now, .bool on, .int .i64 ze, .int .i64 fi, .int .i64 hi, .int .i64 (Jb.maxSq dn []), .int .i64 sp, .int .i64 tr, .slice A2 0 c2, .int .i64 la, .int .i64 tw, .int .i64 pd] rfl
      have QF := QOwn.setRow (g := w.heap.size + 1 + 1) (by omega) [.int .i64 le, .int .i64 mo, .int .i64 now, .bool on, .int .i64 ze, .int .i64 fi, .int .i64 hi, .int .i64 (Jb.maxSq dn []), .int .i64 sp, .int .i64 tr, .slice A2 0 c2, .int .i64 la, .int .i64 tw, .int .i64 pd] _ 0 (Q2r.out.setCell (p := ⟨w.heap.size, 2, none⟩) (by simp; omega) (.int .i64 now))
      have WF := WtsIn.setRow (g := w.heap.size + 1 + 1) (by omega) [.int .i64 le, .int .i64 mo, .int .i64 now, .bool on, .int .i64 ze, .int .i64 fi, .int .i64 hi, .int .i64 (Jb.maxSq dn []), .int .i64 sp, .int .i64 tr, .slice A2 0 c2, .int .i64 la, .int .i64 tw, .int .i64 pd] _ 0 (W1r.out.setCell (p := ⟨w.heap.size, 2, none⟩) (by simp; omega) (.int .i64 now))
      have UF := below_setRow (g := w.heap.size + 1 + 1) (by omega) [.int .i64 le, .int .i64 mo, .int .i64 now, .bool on, .int .i64 ze, .int .i64 fi, .int .i64 hi, .int .i64 (Jb.maxSq dn []), .int .i64 sp, .int .i64 tr, .slice A2 0 c2, .int .i64 la, .int .i64 tw, .int .i64 pd] _ 0 (zai (p := ⟨w.heap.size, 2, none⟩) Ur.out (Nat.le_refl _) (.int .i64 now))
      have SF := zas (w.heap.size + 1 + 1) [.int .i64 le, .int .i64 mo, .int .i64 now, .bool on, .int .i64 ze, .int .i64 fi, .int .i64 hi, .int .i64 (Jb.maxSq dn []), .int .i64 sp, .int .i64 tr, .slice A2 0 c2, .int .i64 la, .int .i64 tw, .int .i64 pd] (wr.setCell ⟨w.heap.size, 2, none⟩ (.int .i64 now)) 0
      obtain ⟨W, hW⟩ : ∃ W, W = setRow (w.heap.size + 1 + 1) (wr.setCell ⟨w.heap.size, 2, none⟩ (.int .i64 now)) 0 [.int .i64 le, .int .i64 mo, .int .i64 now, .bool on, .int .i64 ze, .int .i64 fi, .int .i64 hi, .int .i64 (Jb.maxSq dn []), .int .i64 sp, .int .i64 tr, .slice A2 0 c2, .int .i64 la, .int .i64 tw, .int .i64 pd] := ⟨_, rfl⟩
      rw [← hW] at BF QF WF UF SF
      simp only [setRow, Nat.zero_add, Nat.reduceAdd] at hW
      rw [← hW]
      have hl2 : l2.length = 0 := Q2r.out.len
      have hl1 : l1.length = 0 := HL1.out
      rw [← hl2] at BF QF
      exact bodyPost_ret (v := .tuple #[.agg (List.toArray [.int .i64 le, .int .i64 mo, .int .i64 now, .bool on, .int .i64 ze, .int .i64 fi, .int .i64 hi, .int .i64 (Jb.maxSq dn []), .int .i64 sp, .int .i64 tr, .slice A2 l2.length c2, .int .i64 la, .int .i64 tw, .int .i64 pd]), .slice A1 0 c1]) (zat Tryz.results102 rfl (run_loadVar_row (P := Tryz.prog) _ _ _ _ _ _ _ BF Tryz.underlying40 rfl (by kernel_rfl)) rfl) rfl ⟨A1, c1, l1, A2, c2, l2, w2.heap.size, by rw [hl1, show ((Jb.due now []).length : Int) = 0 from rfl, Int.add_zero]; rfl, HM1.out, HM2.out, WF.less (by omega), QF, by omega, by have := HSr.out; rw [SF]; simpa [World.setCell] using this, HCA.out, UF⟩
    exact absurd hk (by omega)
 go_enter Tryz.func102, Tryz.ntmps102
 go_wp2_with fail
 refine K1.out.mono ?_
 rw [← HW0.out]
 rintro e w1 ⟨rfl, hb1⟩
 have U1 := H9 (U0.out.later hb1)
 have BS1 := H9 (BS.out.later hb1)
 have BN1 := H9 (BN.out.later hb1)
 have BR1 := H9 (BR.out.later hb1)
 have HA1 := H9 (HA.out.later hb1)
 have g10 := BS1.out.at 10 _ rfl
 clear hb1 K1 HW0 U0 BS BN BR HA
 have k2 := H9 fun (A9 : Option Addr) (c9 : Nat) => (zar A9 [] 0 c9 w1 w1.heap.size (Nat.le_refl _) rfl (by omega) Wts.empty (fun _ h => by cases h) (Jb.due now []) rfl)
 go_wp2_with fail
 refine (k2.out _ _).mono ?_
 rintro e w2 ⟨A1, c1, l1, rfl, hm1, hq1, hb2⟩
 have HM1 := H9 hm1
 have Q1 := H9 hq1.wtsIn
 have HL1 := H9 hq1.len
 have HCA : Hid (l1.length ≤ c1 ∧ c1 ≤ maxLen) := H9 ⟨by rw [hq1.len]; exact hq1.own.cap, Owns.capm hq1.own⟩
 have U2 := H9 (U1.out.later hb2)
 have BS2 := H9 (BS1.out.later hb2)
 have BN2 := H9 (BN1.out.later hb2)
 have BR2 := H9 (BR1.out.later hb2)
 have HA2 := H9 (HA1.out.later hb2)
 have hs1 := BR1.out.lt
 have hs2 := hb2.size
 have k3 := H9 fun (A9 : Option Addr) (c9 : Nat) => (zar A9 [] 0 c9 w2 w2.heap.size (Nat.le_refl _) rfl (by omega) Wts.empty (fun _ h => by cases h) (Jb.left now []) rfl)
 clear hb2 hm1 hq1 U1 BS1 BN1 BR1 HA1 k2
 clear g10
 have g10 := BS2.out.at 10 _ rfl
 go_wp2_with fail
 refine (k3.out _ _).mono ?_
 rintro e w3 ⟨A2, c2, l2, rfl, hm2, hq2, hb3⟩
 have HM2 := H9 hm2
 have Q2 := H9 hq2
 have Q1' := H9 (Q1.out.below hb3 (Nat.le_refl _))
 have U3 := H9 (U2.out.later hb3)
 have BS3 := H9 (BS2.out.later hb3)
 have BN3 := H9 (BN2.out.later hb3)
 have BR3 := H9 (BR2.out.later hb3)
 have hs3 := hb3.size
 clear hb3 hm2 hq2 U2 BS2 BN2 BR2 HA2 k3 Q1 g10
 have f13 := BS3.out.at 13 _ rfl
 have f10 := BS3.out.at 10 _ rfl
 have fz := BS3.out.frozen
 go_wp2_with fail
 go_loopg [38] 0 (fun gk i wr => ∃ k : Nat, gk + k = 0 ∧ i = .int .i64 k ∧ Hid (Blk wr w.heap.size 40 #[.int .i64 le, .int .i64 mo, .int .i64 nw, .bool on, .int .i64 ze, .int .i64 fi, .int .i64 hi, .int .i64 (Jb.maxSq dn (([] : List Jb.Wt))), .int .i64 sp, .int .i64 tr, .slice A2 0 c2, .int .i64 la, .int .i64 tw, .int .i64 pd]) ∧ Hid (Blk wr (w.heap.size + 1) 3 #[.int .i64 now]) ∧ Hid (Blk wr (w.heap.size + 1 + 1) 40 #[.int .i64 0, .int .i64 0, .int .i64 0, .bool false, .int .i64 0, .int .i64 0, .int .i64 0, .int .i64 0, .int .i64 0, .int .i64 0, .slice none 0 0, .int .i64 0, .int .i64 0, .int .i64 0]) ∧ Hid (WtsIn wr w1.heap.size w2.heap.size A1 l1) ∧ Hid (QOwn wr w2.heap.size A2 0 c2 l2) ∧ Hid (Bel w wr) ∧ Hid (w2.heap.size ≤ wr.heap.size))
 case atStart =>
  refine ⟨0, rfl, rfl, H9 ?_, H9 ?_, H9 ?_, H9 ?_, H9 ?_, H9 ?_, H9 ?_⟩
  · exact (BS3.out.set_ 10 (.slice A2 0 c2)).set_ 13 (.int .i64 pd)
  · exact (BN3.out.far (by simp) _).far (by simp) _
  · exact (BR3.out.far (by simp; omega) _).far (by simp; omega) _
  · exact (Q1'.out.setCell (by simp; omega) _).setCell (by simp; omega) _
  · exact (Q2.out.setCell (by simp; omega) _).setCell (by simp; omega) _
  · exact zai (zai U3.out (Nat.le_refl _) _) (Nat.le_refl _) _
  · simpa [World.setCell] using hs3
 case round =>
  obtain ⟨k, hgk, rfl, BSr, BNr, BRr, W1r, Q2r, Ur, HSr⟩ := hrel
  have hi0 : (0 : Int) ≤ (k : Int) := by omega
  have hz0 := BSr.out.lt
  have fzr := BSr.out.frozen
  by_cases hk : k < 0
  rotate_left
  · obtain rfl : k = 0 := by omega
    have hi1 : (0 : Int) ≤ (0 : Int) := Int.le_refl _
    have p0 := BSr.out.at 0 _ rfl
    have p1 := BSr.out.at 1 _ rfl
    have p2 := BSr.out.at 2 _ rfl
    have p3 := BSr.out.at 3 _ rfl
    have p4 := BSr.out.at 4 _ rfl
    have p5 := BSr.out.at 5 _ rfl
    have p6 := BSr.out.at 6 _ rfl
    have p7 := BSr.out.at 7 _ rfl
    have p8 := BSr.out.at 8 _ rfl
    have p9 := BSr.out.at 9 _ rfl
    have p10 := BSr.out.at 10 _ rfl
    have p11 := BSr.out.at 11 _ rfl
    have p12 := BSr.out.at 12 _ rfl
    have p13 := BSr.out.at 13 _ rfl
    have r0 := BRr.out.at 0 _ rfl
    have r1 := BRr.out.at 1 _ rfl
    have r2 := BRr.out.at 2 _ rfl
    have r3 := BRr.out.at 3 _ rfl
    have r4 := BRr.out.at 4 _ rfl
    have r5 := BRr.out.at 5 _ rfl
    have r6 := BRr.out.at 6 _ rfl
    have r7 := BRr.out.at 7 _ rfl
    have r8 := BRr.out.at 8 _ rfl
    have r9 := BRr.out.at 9 _ rfl
    have r10 := BRr.out.at 10 _ rfl
    have r11 := BRr.out.at 11 _ rfl
    have r12 := BRr.out.at 12 _ rfl
    have r13 := BRr.out.at 13 _ rfl
    have n0 := BNr.out.at 0 _ rfl
    have rfz := BRr.out.frozen
    go_wp2_with fail
    have BF := Blk.setRow (BRr.out.far (p := ⟨w.heap.size, 2, none⟩) (by simp; omega) (.int .i64 now)) [.int .i64 le, .int .i64 mo, .int .i64 now, .bool on, .int .i64 ze, .int .i64 fi, .int .i64 hi, .int .i64 (Jb.maxSq dn []), .int .i64 sp, .int .i64 tr, .slice A2 0 c2, .int .i64 la, .int .i64 tw, .int .i64 pd] rfl
    have QF := QOwn.setRow (g := w.heap.size + 1 + 1) (by omega) [.int .i64 le, .int .i64 mo, .int .i64 now, .bool on, .int .i64 ze, .int .i64 fi, .int .i64 hi, .int .i64 (Jb.maxSq dn []), .int .i64 sp, .int .i64 tr, .slice A2 0 c2, .int .i64 la, .int .i64 tw, .int .i64 pd] _ 0 (Q2r.out.setCell (p := ⟨w.heap.size, 2, none⟩) (by simp; omega) (.int .i64 now))
    have WF := WtsIn.setRow (g := w.heap.size + 1 + 1) (by omega) [.int .i64 le, .int .i64 mo, .int .i64 now, .bool on, .int .i64 ze, .int .i64 fi, .int .i64 hi, .int .i64 (Jb.maxSq dn []), .int .i64 sp, .int .i64 tr, .slice A2 0 c2, .int .i64 la, .int .i64 tw, .int .i64 pd] _ 0 (W1r.out.setCell (p := ⟨w.heap.size, 2, none⟩) (by simp; omega) (.int .i64 now))
    have UF := below_setRow (g := w.heap.size + 1 + 1) (by omega) [.int .i64 le, .int .i64 mo, .int .i64 now, .bool on, .int .i64 ze, .int .i64 fi, .int .i64 hi, .int .i64 (Jb.maxSq dn []), .int .i64 sp, .int .i64 tr, .slice A2 0 c2, .int .i64 la, .int .i64 tw, .int .i64 pd] _ 0 (zai (p := ⟨w.heap.size, 2, none⟩) Ur.out (Nat.le_refl _) (.int .i64 now))
    have SF := zas (w.heap.size + 1 + 1) [.int .i64 le, .int .i64 mo, .int .i64 now, .bool on, .int .i64 ze, .int .i64 fi, .int .i64 hi, .int .i64 (Jb.maxSq dn []), .int .i64 sp, .int .i64 tr, .slice A2 0 c2, .int .i64 la, .int .i64 tw, .int .i64 pd] (wr.setCell ⟨w.heap.size, 2, none⟩ (.int .i64 now)) 0
    obtain ⟨W, hW⟩ : ∃ W, W = setRow (w.heap.size + 1 + 1) (wr.setCell ⟨w.heap.size, 2, none⟩ (.int .i64 now)) 0 [.int .i64 le, .int .i64 mo, .int .i64 now, .bool on, .int .i64 ze, .int .i64 fi, .int .i64 hi, .int .i64 (Jb.maxSq dn []), .int .i64 sp, .int .i64 tr, .slice A2 0 c2, .int .i64 la, .int .i64 tw, .int .i64 pd] := ⟨_, rfl⟩
    rw [← hW] at BF QF WF UF SF
    simp only [setRow, Nat.zero_add, Nat.reduceAdd] at hW
    rw [← hW]
    have hl2 : l2.length = 0 := Q2r.out.len
    have hl1 : l1.length = 0 := HL1.out
    rw [← hl2] at BF QF
    exact bodyPost_ret (v := .tuple #[.agg (List.toArray [.int .i64 le, .int .i64 mo, .int .i64 now, .bool on, .int .i64 ze, .int .i64 fi, .int .i64 hi, .int .i64 (Jb.maxSq dn []), .int .i64 sp, .int .i64 tr, .slice A2 l2.length c2, .int .i64 la, .int .i64 tw, .int .i64 pd]), .slice A1 0 c1]) (zat Tryz.results102 rfl (run_loadVar_row (P := Tryz.prog) _ _ _ _ _ _ _ BF Tryz.underlying40 rfl (by kernel_rfl)) rfl) rfl ⟨A1, c1, l1, A2, c2, l2, w2.heap.size, by rw [hl1, show ((Jb.due now []).length : Int) = 0 from rfl, Int.add_zero]; rfl, HM1.out, HM2.out, WF.less (by omega), QF, by omega, by have := HSr.out; rw [SF]; simpa [World.setCell] using this, HCA.out, UF⟩
  exact absurd hk (by omega)
end Go.Proofs.YtahbecinkciahaaGreat
namespace Go.Proofs.YtahbecinkciahaaGreat
open Go Go.RowKit
open Go.Maps (Keyed)
theorem zdj {H : Type} {P : Program} {e : TypeId} (he : P.underlying e = some .bool) {v : Value} {z : DataW H × List MemPlace} (h : plainElem P e v = some z) : ∃ x, v = .bool x ∧ z = (.lit (.bool x), []) := by
 unfold plainElem at h
 rw [he] at h
 cases v <;> simp at h
 case bool x => exact ⟨x, rfl, h.symm⟩
def sqMap (H : Type) (l : List Int) : DataW H := l.foldl (fun D s => D.put (.int .i64 s) (.lit (.bool true))) (.map [])
theorem zdw (H : Type) (l : List Int) (s : Int) : sqMap H (l ++ [s]) = (sqMap H l).put (.int .i64 s) (.lit (.bool true)) := by simp [sqMap, List.foldl_append]
theorem zkd (H : Type) : ∀ (n : Nat) (l : List Int), l.length = n → Maps.IsMap (sqMap H l)
 | 0, l, h => by
   obtain rfl := List.eq_nil_of_length_eq_zero h
   exact Maps.isMap_empty
 | n + 1, l0, h => by
   obtain ⟨l, s, rfl⟩ : ∃ a b, l0 = a ++ [b] := ⟨l0.dropLast, l0.getLast (by intro e; rw [e] at h; simp at h), (List.dropLast_concat_getLast _).symm⟩
   rw [zdw]
   exact (zkd H n l (by simpa using h)).put _ _
theorem zke (H : Type) (s : Int) : ∀ (n : Nat) (l : List Int), l.length = n → (sqMap H l).atKey (.int .i64 s) (.lit (.bool false)) = .lit (.bool (l.any fun x => x == s))
 | 0, l, h => by
   obtain rfl := List.eq_nil_of_length_eq_zero h
   rfl
 | n + 1, l0, h => by
   obtain ⟨l, x, rfl⟩ : ∃ a b, l0 = a ++ [b] := ⟨l0.dropLast, l0.getLast (by intro e; rw [e] at h; simp at h), (List.dropLast_concat_getLast _).symm⟩
   have hl : l.length = n := by simpa using h
   rw [zdw]
   by_cases hx : x = s
   · subst hx
     rw [Maps.atKey_put_same (k := .int .i64 x) (zkd H n l hl) (by unfold WideAt.IsKeyLit; trivial)]
     simp
   · rw [Maps.atKey_put_other (fun e => hx (by injection e with _ e; exact e.symm)), zke H s n l hl]
     simp [hx]
end Go.Proofs.YtahbecinkciahaaGreat
namespace Go.Proofs.YtahbecinkciahaaGreat.Jb
open Go.RowKit
def Fine (now high : Int) (w : Wt) : Prop := w.m.ok ∧ now < w.at_ ∧ w.at_ ≤ 562949953421312 ∧ w.m.sq ≤ high
theorem getD_eq {q : List Wt} {k : Nat} (h : k < q.length) : q.getD k Wt.zero = q[k] := by simp [List.getD_eq_getElem?_getD, h]
theorem okQ_iff (now high : Int) (q : List Wt) : okQ now high q ↔ q.length ≤ 200 ∧ (∀ w ∈ q, Fine now high w) ∧ q.Pairwise bef ∧ q.Pairwise (fun a b => a.m.sq ≠ b.m.sq) := by
 constructor
 · intro h
   refine ⟨h.1, fun w hw => ?_, ?_, ?_⟩
   · obtain ⟨k, hk, rfl⟩ := List.getElem_of_mem hw
     obtain ⟨a, b, c, d, _⟩ := h.2 k hk
     rw [getD_eq hk] at a b c d
     exact ⟨a, b, c, d⟩
   · refine List.pairwise_iff_getElem.2 fun i j hi hj hij => ?_
     have := h.asc i j hij hj
     rwa [getD_eq hi, getD_eq hj] at this
   · refine List.pairwise_iff_getElem.2 fun i j hi hj hij => ?_
     have := (h.2 j hj).2.2.2.2.2 i hij
     rwa [getD_eq hi, getD_eq hj] at this
 · rintro ⟨h1, h2, h3, h4⟩
   refine ⟨h1, fun k hk => ?_⟩
   obtain ⟨a, b, c, d⟩ := h2 _ (List.getElem_mem hk)
   unfold okAt
   rw [getD_eq hk]
   refine ⟨a, b, c, d, fun h0 => ?_, fun i hi => ?_⟩
   · rw [getD_eq (show k - 1 < q.length by omega)]
     exact List.pairwise_iff_getElem.1 h3 (k - 1) k (by omega) hk (by omega)
   · rw [getD_eq (show i < q.length by omega)]
     exact List.pairwise_iff_getElem.1 h4 i k (by omega) hk hi
theorem left_gt (now : Int) : ∀ q : List Wt, q.Pairwise bef → ∀ w ∈ left now q, now < w.at_
 | [], _, w, hw => by cases hw
 | a :: q, h, w, hw => by
   unfold left at hw
   rw [List.dropWhile_cons] at hw
   by_cases ha : a.at_ ≤ now
   · rw [if_pos (by simpa using ha)] at hw
     exact left_gt now q (List.pairwise_cons.1 h).2 w hw
   · rw [if_neg (by simpa using ha)] at hw
     rcases List.mem_cons.1 hw with rfl | hw
     · omega
     · have := bef_at ((List.pairwise_cons.1 h).1 w hw)
       omega
theorem left_sub (now : Int) (q : List Wt) : List.Sublist (left now q) q := List.dropWhile_sublist _
theorem due_sub (now : Int) (q : List Wt) : List.Sublist (due now q) q := List.takeWhile_sublist _
theorem zkf (hi : Int) : ∀ (l : List Wt) (d : Int), (∀ w ∈ l, w.m.sq ≤ hi) → d ≤ hi → d ≤ maxSq d l ∧ maxSq d l ≤ hi
 | [], d, _, h => ⟨Int.le_refl _, h⟩
 | a :: l, d, h, hd => by
   have h1 := h a List.mem_cons_self
   obtain ⟨e1, e2⟩ := zkf hi l (max d a.m.sq) (fun w hw => h w (List.mem_cons_of_mem _ hw)) (by omega)
   show d ≤ maxSq (max d a.m.sq) l ∧ maxSq (max d a.m.sq) l ≤ hi
   omega
theorem run0_ok (s : Jt) (now : Int) (h : s.ok) (h1 : s.now ≤ now) (h2 : now ≤ 281474976710656) (h3 : s.played + (due now s.q).length ≤ 281474976710656) : (run0 s now).ok := by
 obtain ⟨⟨a1, a2, a3, a4, a5, a6, a7⟩, hc, ⟨b1, b2, b3⟩, hr, hq⟩ := h
 obtain ⟨q1, q2, q3, q4⟩ := (okQ_iff _ _ _).1 hq
 have hm := zkf (max s.done s.high) (due now s.q) s.done (fun w hw => by have := (q2 w ((due_sub now s.q).subset hw)).2.2.2; omega) (by omega)
 have hl : (left now s.q).length ≤ s.q.length := (left_sub now s.q).length_le
 refine ⟨⟨⟨by show 0 ≤ now; omega, h2⟩, a2, a3, a4, a5, ⟨by show -1 ≤ maxSq _ _; omega, by show maxSq _ _ ≤ _; omega⟩, a7⟩, hc, ⟨b1, b2, ⟨by show 0 ≤ s.played + _; omega, h3⟩⟩, ?_, ?_⟩
 · rcases hr with hr | ⟨r1, r2, r3⟩
   · exact Or.inl hr
   · right
     have e : s.q = [] := List.eq_nil_of_length_eq_zero r1
     show (left now s.q).length = 0 ∧ s.high = -1 ∧ maxSq s.done (due now s.q) = -1
     rw [e]
     exact ⟨rfl, r2, r3⟩
 · refine (okQ_iff _ _ _).2 ⟨by show (left now s.q).length ≤ 200; omega, fun w hw => ?_, q3.sublist (left_sub now s.q), q4.sublist (left_sub now s.q)⟩
   obtain ⟨f1, f2, f3, f4⟩ := q2 w ((left_sub now s.q).subset hw)
   exact ⟨f1, left_gt now s.q q3 w hw, f3, f4⟩
theorem zdk (q : List Wt) (w : Wt) : List.Perm (ins q w) (w :: q) := by
 unfold ins
 have h := List.perm_middle (a := w) (l₁ := q.takeWhile fun x => decide (bef x w)) (l₂ := q.dropWhile fun x => decide (bef x w))
 rwa [List.takeWhile_append_dropWhile] at h
theorem zrq (a b : Wt) (h : a.m.sq ≠ b.m.sq) : bef a b ∨ bef b a := by unfold bef; omega
theorem znm (w : Wt) : ∀ q : List Wt, q.Pairwise bef → (∀ x ∈ q, x.m.sq ≠ w.m.sq) → (ins q w).Pairwise bef
 | [], _, _ => by simp [ins]
 | a :: q, h, hd => by
   obtain ⟨h1, h2⟩ := List.pairwise_cons.1 h
   by_cases ha : bef a w
   · have e : ins (a :: q) w = a :: ins q w := by simp [ins, ha]
     rw [e]
     refine List.pairwise_cons.2 ⟨fun b hb => ?_, znm w q h2 (fun x hx => hd x (List.mem_cons_of_mem _ hx))⟩
     have hb' := (zdk q w).subset hb
     rcases List.mem_cons.1 hb' with rfl | hb'
     · exact ha
     · exact h1 b hb'
   · have e : ins (a :: q) w = w :: a :: q := by simp [ins, ha]
     rw [e]
     have hwa : bef w a := (zrq a w (hd a List.mem_cons_self)).resolve_left ha
     refine List.pairwise_cons.2 ⟨fun b hb => ?_, h⟩
     rcases List.mem_cons.1 hb with rfl | hb
     · exact hwa
     · exact bef_trans hwa (h1 b hb)
theorem ins_len (q : List Wt) (w : Wt) : (ins q w).length = q.length + 1 := (zdk q w).length_eq
theorem zrr (now high : Int) (q : List Wt) (w : Wt) (h : okQ now high q) (hl : q.length < 200) (hw : Fine now high w) (hd : ∀ x ∈ q, x.m.sq ≠ w.m.sq) : okQ now high (ins q w) := by
 obtain ⟨q1, q2, q3, q4⟩ := (okQ_iff _ _ _).1 h
 refine (okQ_iff _ _ _).2 ⟨by rw [ins_len]; omega, fun x hx => ?_, znm w q q3 hd, ?_⟩
 · rcases List.mem_cons.1 ((zdk q w).subset hx) with rfl | hx
   · exact hw
   · exact q2 x hx
 · refine (zdk q w).symm.pairwise (List.pairwise_cons.2 ⟨fun x hx => (hd x hx).symm, q4⟩) (fun hab e => hab e.symm)
theorem znn (z now high : Int) (q : List Wt) (h : okQ now high q) (z0 : 0 ≤ z) (z1 : z ≤ 562949953421313) : z ≤ lastAt z q ∧ lastAt z q ≤ 562949953421313 := by
 unfold lastAt
 by_cases h0 : q.length = 0
 · rw [if_pos h0]; omega
 · rw [if_neg h0]
   have := (h.2 (q.length - 1) (by omega)).2.2.1
   omega
theorem zno (sp d : Int) (h0 : 0 ≤ sp) (h1 : sp ≤ 72057594037927936) (d0 : 0 ≤ d) (d1 : d ≤ 2251799813685248) : 0 ≤ sp + d - (sp + 8) / 16 ∧ sp + d - (sp + 8) / 16 ≤ 72057594037927936 := by omega
theorem meas_ok (s : Jt) (m : Md) (h : s.ok) (hm : m.ok) : (meas s m).ok := by
 obtain ⟨⟨a1, a2, a3, a4, a5, a6, a7⟩, hc, hk, hr, hq⟩ := h
 obtain ⟨m1, m2, m3⟩ := hm
 obtain ⟨c1, c2, c3⟩ := hc
 have hsp : ∀ (on : Bool), 0 ≤ (if on then s.spread + max (s.now - m.ti / 8 - s.trans) (s.trans - (s.now - m.ti / 8)) - (s.spread + 8) / 16 else s.spread) ∧ (if on then s.spread + max (s.now - m.ti / 8 - s.trans) (s.trans - (s.now - m.ti / 8)) - (s.spread + 8) / 16 else s.spread) ≤ 72057594037927936 := fun on => by
  cases on
  · exact a7
  · exact zno s.spread _ a7.1 a7.2 (by omega) (by omega)
 have hs := hsp s.on
 have hz := znn (s.now + min (s.least + (if s.on then s.spread + max (s.now - m.ti / 8 - s.trans) (s.trans - (s.now - m.ti / 8)) - (s.spread + 8) / 16 else s.spread) / 4) s.most) s.now s.high s.q hq (by omega) (by omega)
 unfold meas
 refine ⟨⟨a1, ?_, ⟨by show -1125899906842624 ≤ s.now - m.ti / 8; omega, by show s.now - m.ti / 8 ≤ 1125899906842624; omega⟩, ?_, ⟨by show -1 ≤ max s.high m.sq; omega, by show max s.high m.sq ≤ 281474976710656; omega⟩, a6, hs⟩, ⟨c1, c2, c3⟩, hk, Or.inl rfl, ?_⟩
 · show -1125899906842624 ≤ (if _ then _ else s.zero) ∧ (if _ then _ else s.zero) ≤ 1125899906842624
   split
   · exact ⟨Int.le_trans (by omega) hz.1, Int.le_trans hz.2 (by omega)⟩
   · exact a2
 · show -281474976710656 ≤ (if _ then m.ti else s.first) ∧ (if _ then m.ti else s.first) ≤ 281474976710656
   split
   · exact m2
   · exact a4
 · obtain ⟨q1, q2, q3, q4⟩ := (okQ_iff _ _ _).1 hq
   refine (okQ_iff _ _ _).2 ⟨q1, fun w hw => ?_, q3, q4⟩
   obtain ⟨f1, f2, f3, f4⟩ := q2 w hw
   exact ⟨f1, f2, f3, by show w.m.sq ≤ max s.high m.sq; omega⟩
theorem meas_q (s : Jt) (m : Md) : (meas s m).q = s.q ∧ (meas s m).now = s.now ∧ (meas s m).late = s.late ∧ (meas s m).twice = s.twice ∧ (meas s m).played = s.played ∧ (meas s m).high = max s.high m.sq ∧ (meas s m).on = true ∧ (meas s m).done = s.done ∧ (meas s m).least = s.least ∧ (meas s m).most = s.most := ⟨rfl, rfl, rfl, rfl, rfl, rfl, rfl, rfl, rfl, rfl⟩
theorem cnt_ok (s : Jt) (h : s.ok) (l t p : Int) (hl : 0 ≤ l ∧ l ≤ 281474976710656) (ht : 0 ≤ t ∧ t ≤ 281474976710656) (hp : 0 ≤ p ∧ p ≤ 281474976710656) : ({ s with late := l, twice := t, played := p } : Jt).ok :=
 ⟨h.1, h.2.1, ⟨hl, ht, hp⟩, h.2.2.2.1, h.2.2.2.2⟩
theorem znp (s : Jt) (m : Md) (h : s.ok) (hm : m.ok) (hl : s.late < 281474976710656) (ht : s.twice < 281474976710656) : (put0 s m).1.ok := by
 have hk := h.2.2.1
 obtain ⟨k1, k2, k3⟩ := hk
 have hM := meas_ok s m h hm
 unfold put0
 split
 · exact cnt_ok s h _ _ _ k1 ⟨by omega, by omega⟩ k3
 rename_i hany
 split
 · exact cnt_ok s h _ _ _ ⟨by omega, by omega⟩ k2 k3
 split
 · exact h
 rename_i hlen
 dsimp only
 split
 · exact cnt_ok _ hM _ _ _ ⟨by show 0 ≤ s.late + 1; omega, by show s.late + 1 ≤ _; omega⟩ k2 k3
 rename_i ha
 split
 · exact hM
 rename_i hb
 refine ⟨hM.1, hM.2.1, hM.2.2.1, Or.inl rfl, ?_⟩
 have hn : s.now ≤ 281474976710656 := h.1.1.2
 refine zrr s.now (max s.high m.sq) s.q _ hM.2.2.2.2 (by omega) ⟨hm, by show s.now < ptime (meas s m) m.ti; omega, by show ptime (meas s m) m.ti ≤ 562949953421312; omega, by show m.sq ≤ max s.high m.sq; omega⟩ (fun x hx e => hany ?_)
 exact List.any_eq_true.2 ⟨x, hx, by simpa using e⟩
theorem new_ok (l m : Int) (h : cfg l m) : (new l m).1.ok := by
 unfold new
 rw [if_pos h]
 refine ⟨⟨by simp, by simp, by simp, by simp, by simp, by simp, by simp⟩, h, ⟨by simp, by simp, by simp⟩, Or.inr ⟨rfl, rfl, rfl⟩, ?_⟩
 exact ⟨by simp, fun k hk => absurd hk (by simp)⟩
end Go.Proofs.YtahbecinkciahaaGreat.Jb

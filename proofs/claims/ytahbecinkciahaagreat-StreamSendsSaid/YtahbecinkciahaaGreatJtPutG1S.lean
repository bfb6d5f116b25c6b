/- Layer 30: Put of the program, one way. -/
import Derived.Test.YtahbecinkciahaaGreatSs9S
import Derived.Test.YtahbecinkciahaaGreatJtMeas2S
import Derived.Test.YtahbecinkciahaaGreatJtPutAS
import Derived.Test.YtahbecinkciahaaGreatJtPutCS
import Derived.Test.YtahbecinkciahaaGreatJtPutD1S
import Derived.Test.YtahbecinkciahaaGreatJtPutE1S
import Derived.Test.YtahbecinkciahaaGreatJtPutF1S
import Derived.Test.YtahbecinkciahaaGreatJtCopyS
import Derived.Deep.RegionHeld3
import Derived.Deep.RegionWith
import Derived.Test.YtahbecinkciahaaGreatShelf
import Derived.Deep.QuietTactic
import Derived.BigQuiet
import Derived.StillTailTactics
import Derived.Laws.BitsAllLaws
set_option linter.unusedVariables false
set_option linter.unusedSimpArgs false
set_option maxRecDepth 100000
set_option maxHeartbeats 12800000
namespace Go.Proofs.YtahbecinkciahaaGreat
attribute [local go_sem ↓] zac zad
attribute [local go_sem] zab zag
open Go.RowKit
theorem zmj (le mo nw : Int) (ze fi hi dn sp tr : Int) (A : Option Addr) (l : List TW) (n qc : Nat) (la tw pd : Int) (now : Int) (sq ti : Int) (mk : Bool) (ty : Int) (MA : Option Addr) (mn mc : Nat) (pl : List Int) (w : World) (hn : l.length = n) (hmn : pl.length = mn) (hl : n ≤ 100000) (hm9 : mn ≤ 100000) (hcap : n ≤ qc) (hcm : qc ≤ maxLen) (hA : Wts w w.heap.size A l) (hK : ∀ a ∈ l, I64 a.w.m.sq) (hMI : IntsAt w w.heap.size .u8 MA pl) (hr0 : Jb.chk ⟨le, mo, nw, true, ze, fi, hi, dn, sp, tr, l.map TW.w, la, tw, pd⟩ now (decide (Jb.Md.ok ⟨sq, ti, mk, ty, pl⟩)) = 0) (hany : ((Jb.run0 ⟨le, mo, nw, true, ze, fi, hi, dn, sp, tr, l.map TW.w, la, tw, pd⟩ now).q.any fun w => w.m.sq == sq) = false) (hls : (Jb.run0 ⟨le, mo, nw, true, ze, fi, hi, dn, sp, tr, l.map TW.w, la, tw, pd⟩ now).done < sq) (qf : (Jb.run0 ⟨le, mo, nw, true, ze, fi, hi, dn, sp, tr, l.map TW.w, la, tw, pd⟩ now).q.length < 200) (hla : now < (Jb.ptime (Jb.meas (Jb.run0 ⟨le, mo, nw, true, ze, fi, hi, dn, sp, tr, l.map TW.w, la, tw, pd⟩ now) (⟨sq, ti, mk, ty, pl⟩ : Jb.Md)) ti)) (hfar : (Jb.ptime (Jb.meas (Jb.run0 ⟨le, mo, nw, true, ze, fi, hi, dn, sp, tr, l.map TW.w, la, tw, pd⟩ now) (⟨sq, ti, mk, ty, pl⟩ : Jb.Md)) ti) ≤ now + 120000) : Calls Tryz.prog 46 #[.agg #[.int .i64 le, .int .i64 mo, .int .i64 nw, .bool true, .int .i64 ze, .int .i64 fi, .int .i64 hi, .int .i64 dn, .int .i64 sp, .int .i64 tr, .slice A n qc, .int .i64 la, .int .i64 tw, .int .i64 pd], .int .i64 now, .agg #[.int .i64 sq, .int .i64 ti, .bool mk, .int .u8 ty, .slice MA mn mc]] w (JPutW ⟨le, mo, nw, true, ze, fi, hi, dn, sp, tr, l.map TW.w, la, tw, pd⟩ now ⟨sq, ti, mk, ty, pl⟩ w) := by
 subst hn
 subst hmn
 obtain ⟨r, hr⟩ : ∃ r, r = Jb.chk ⟨le, mo, nw, true, ze, fi, hi, dn, sp, tr, l.map TW.w, la, tw, pd⟩ now (decide (Jb.Md.ok ⟨sq, ti, mk, ty, pl⟩)) := ⟨_, rfl⟩
 rw [← hr] at hr0
 subst hr0
 have HR := H9 hr
 have k1 := H9 fun (W : World) (hW : Bel w W) => zbi le mo nw true ze fi hi dn sp tr A l l.length qc la tw pd now sq ti mk ty MA pl.length mc W rfl hl ((hA.below hW).more hW.size) hK (decide (Jb.Md.ok ⟨sq, ti, mk, ty, pl⟩)) rfl 0 hr
 have U0 := H9 ((((Bel.refl w).push (.cells #[.int .i64 le, .int .i64 mo, .int .i64 nw, .bool true, .int .i64 ze, .int .i64 fi, .int .i64 hi, .int .i64 dn, .int .i64 sp, .int .i64 tr, .slice A l.length qc, .int .i64 la, .int .i64 tw, .int .i64 pd] 40)).push (.cells #[.int .i64 sq, .int .i64 ti, .bool mk, .int .u8 ty, .slice MA pl.length mc] 103)).push (.cells #[.int .i64 0, .int .i64 0, .int .i64 0, .bool false, .int .i64 0, .int .i64 0, .int .i64 0, .int .i64 0, .int .i64 0, .int .i64 0, .slice none 0 0, .int .i64 0, .int .i64 0, .int .i64 0] 40))
 have BS := H9 (((Blk.new w 40 #[.int .i64 le, .int .i64 mo, .int .i64 nw, .bool true, .int .i64 ze, .int .i64 fi, .int .i64 hi, .int .i64 dn, .int .i64 sp, .int .i64 tr, .slice A l.length qc, .int .i64 la, .int .i64 tw, .int .i64 pd]).push (.cells #[.int .i64 sq, .int .i64 ti, .bool mk, .int .u8 ty, .slice MA pl.length mc] 103)).push (.cells #[.int .i64 0, .int .i64 0, .int .i64 0, .bool false, .int .i64 0, .int .i64 0, .int .i64 0, .int .i64 0, .int .i64 0, .int .i64 0, .slice none 0 0, .int .i64 0, .int .i64 0, .int .i64 0] 40))
 have BM := H9 ((Blk.new1 w (.cells #[.int .i64 le, .int .i64 mo, .int .i64 nw, .bool true, .int .i64 ze, .int .i64 fi, .int .i64 hi, .int .i64 dn, .int .i64 sp, .int .i64 tr, .slice A l.length qc, .int .i64 la, .int .i64 tw, .int .i64 pd] 40) 103 #[.int .i64 sq, .int .i64 ti, .bool mk, .int .u8 ty, .slice MA pl.length mc]).push (.cells #[.int .i64 0, .int .i64 0, .int .i64 0, .bool false, .int .i64 0, .int .i64 0, .int .i64 0, .int .i64 0, .int .i64 0, .int .i64 0, .slice none 0 0, .int .i64 0, .int .i64 0, .int .i64 0] 40))
 have BR : Hid (Blk (((w.alloc (.cells #[.int .i64 le, .int .i64 mo, .int .i64 nw, .bool true, .int .i64 ze, .int .i64 fi, .int .i64 hi, .int .i64 dn, .int .i64 sp, .int .i64 tr, .slice A l.length qc, .int .i64 la, .int .i64 tw, .int .i64 pd] 40)).alloc (.cells #[.int .i64 sq, .int .i64 ti, .bool mk, .int .u8 ty, .slice MA pl.length mc] 103)).alloc (.cells #[.int .i64 0, .int .i64 0, .int .i64 0, .bool false, .int .i64 0, .int .i64 0, .int .i64 0, .int .i64 0, .int .i64 0, .int .i64 0, .slice none 0 0, .int .i64 0, .int .i64 0, .int .i64 0] 40)) (w.heap.size + 1 + 1) 40 #[.int .i64 0, .int .i64 0, .int .i64 0, .bool false, .int .i64 0, .int .i64 0, .int .i64 0, .int .i64 0, .int .i64 0, .int .i64 0, .slice none 0 0, .int .i64 0, .int .i64 0, .int .i64 0]) := H9 (by have h9 := Blk.new ((w.alloc (.cells #[.int .i64 le, .int .i64 mo, .int .i64 nw, .bool true, .int .i64 ze, .int .i64 fi, .int .i64 hi, .int .i64 dn, .int .i64 sp, .int .i64 tr, .slice A l.length qc, .int .i64 la, .int .i64 tw, .int .i64 pd] 40)).alloc (.cells #[.int .i64 sq, .int .i64 ti, .bool mk, .int .u8 ty, .slice MA pl.length mc] 103)) 40 #[.int .i64 0, .int .i64 0, .int .i64 0, .bool false, .int .i64 0, .int .i64 0, .int .i64 0, .int .i64 0, .int .i64 0, .int .i64 0, .slice none 0 0, .int .i64 0, .int .i64 0, .int .i64 0]; rw [zal] at h9; exact h9)
 have HA := H9 hA
 have HMI := H9 hMI
 clear hr hA hMI
 obtain ⟨hok, hnow, hfm, hlt⟩ := zbu HR.out.symm
 rw [decide_eq_true_iff] at hfm
 obtain ⟨hl2, hpl⟩ := zbv (l := l) hok rfl
 obtain ⟨⟨z0, z1⟩, ⟨f0, f1⟩, hoq⟩ := zbn _ ⟨sq, ti, mk, ty, pl⟩ now hok hfm hlt hnow
 have k2 := H9 fun (W : World) (hW : Bel w W) => zcf le mo nw true ze fi hi dn sp tr A l l.length qc la tw pd now W rfl hl2 hcap hcm W.heap.size (Nat.le_refl _) ((HA.out.below hW).more hW.size) (fun a ha => Nat.le_trans (hpl a ha) (by omega)) (by have := hok.2.2.1.2.2; simp only at this; omega)
 obtain ⟨⟨⟨n0, n1⟩, _, ⟨t0, t1⟩, _, _, _, ⟨sb0, sb1⟩⟩, ⟨cf0, cf1, cf2⟩, ⟨⟨la0, la1⟩, ⟨tw0, tw1⟩, _⟩, _, _⟩ := hok
 obtain ⟨⟨q0, q1⟩, ⟨ti0, ti1⟩, pl0⟩ := hfm
 simp only at n0 n1 t0 t1 sb0 sb1 cf0 cf1 cf2 la0 la1 tw0 tw1 q0 q1 ti0 ti1 pl0 hlt
 have hnow0 : 0 ≤ now := by omega
 have hput : Jb.put ⟨le, mo, nw, true, ze, fi, hi, dn, sp, tr, l.map TW.w, la, tw, pd⟩ now ⟨sq, ti, mk, ty, pl⟩ = ((Jb.put0 (Jb.run0 ⟨le, mo, nw, true, ze, fi, hi, dn, sp, tr, l.map TW.w, la, tw, pd⟩ now) ⟨sq, ti, mk, ty, pl⟩).1, Jb.due now (l.map TW.w), (Jb.put0 (Jb.run0 ⟨le, mo, nw, true, ze, fi, hi, dn, sp, tr, l.map TW.w, la, tw, pd⟩ now) ⟨sq, ti, mk, ty, pl⟩).2, 0) := by unfold Jb.put; rw [← HR.out, if_pos rfl]
 have HPUT := H9 hput
 have HOQ := H9 hoq
 have hzf := And.intro (And.intro z0 z1) (And.intro f0 f1)
 have HZF := H9 hzf
 clear hzf
 have HANY := H9 hany
 have HLS := H9 hls
 have HFULL := H9 qf
 have HLA := H9 hla
 have HFAR := H9 hfar
 clear hlt hl2 hpl hput hoq z0 z1 f0 f1 n0 n1 hany hls qf hla hfar
 go_enter Tryz.func46, Tryz.ntmps46
 go_wp2_with fail
 refine (k1.out _ U0.out).mono ?_
 rintro e w1 ⟨rfl, hb1⟩
 have U1 := H9 (U0.out.later hb1)
 have BS1 := H9 (BS.out.later hb1)
 have BM1 := H9 (BM.out.later hb1)
 have BR1 := H9 (BR.out.later hb1)
 have hs1 := BR1.out.lt
 clear hb1
 have s0 := (BS1.out).at 0 _ rfl
 have s1 := (BS1.out).at 1 _ rfl
 have s2 := (BS1.out).at 2 _ rfl
 have s3 := (BS1.out).at 3 _ rfl
 have s4 := (BS1.out).at 4 _ rfl
 have s5 := (BS1.out).at 5 _ rfl
 have s6 := (BS1.out).at 6 _ rfl
 have s7 := (BS1.out).at 7 _ rfl
 have s8 := (BS1.out).at 8 _ rfl
 have s9 := (BS1.out).at 9 _ rfl
 have s10 := (BS1.out).at 10 _ rfl
 have s11 := (BS1.out).at 11 _ rfl
 have s12 := (BS1.out).at 12 _ rfl
 have s13 := (BS1.out).at 13 _ rfl
 have m0 := (BM1.out).at 0 _ rfl
 have m1 := (BM1.out).at 1 _ rfl
 have m2 := (BM1.out).at 2 _ rfl
 have m3 := (BM1.out).at 3 _ rfl
 have m4 := (BM1.out).at 4 _ rfl
 go_wp2_with fail
 refine (k2.out _ U1.out).mono ?_
 rintro e w2 ⟨A1, c1, l1, A2, c2, l2, B, rfl, hm1, hm2, hw1, hq2, hB1, hB2, hca, qb⟩
 have HCA := H9 hca
 clear hca
 generalize hND : Jb.maxSq dn (Jb.due now (l.map TW.w)) = ND
 generalize hPD : pd + ((Jb.due now (l.map TW.w)).length : Int) = PD
 have hS1 : Jb.run0 ⟨le, mo, nw, true, ze, fi, hi, dn, sp, tr, l.map TW.w, la, tw, pd⟩ now = ⟨le, mo, now, true, ze, fi, hi, ND, sp, tr, l2.map TW.w, la, tw, PD⟩ := by rw [hm2, ← hND, ← hPD]; rfl
 rw [hS1] at HPUT HANY HLS HFULL HLA HFAR HZF
 have HOQ2 : Hid (Jb.okQ now hi (l2.map TW.w)) := H9 (by rw [hm2]; exact HOQ.out)
 have hl22 : l2.length ≤ 200 := by have := HOQ2.out.1; simpa using this
 have PS : PSt w w2 w1.heap.size B [.int .i64 le, .int .i64 mo, .int .i64 nw, .bool true, .int .i64 ze, .int .i64 fi, .int .i64 hi, .int .i64 dn, .int .i64 sp, .int .i64 tr, .slice A l.length qc, .int .i64 la, .int .i64 tw, .int .i64 pd] [.int .i64 sq, .int .i64 ti, .bool mk, .int .u8 ty, .slice MA pl.length mc] A1 l1 A2 l2.length c2 l2 := ⟨BS1.out.later qb, BM1.out.later qb, BR1.out.later qb, U1.out.later qb, hw1, hq2, by omega, by omega, hB2⟩
 have PS2 := H9 PS
 have HM1 := H9 hm1
 clear qb hm1 hm2 hw1 hq2 hND hPD hS1 PS HOQ BS1 BM1 BR1 U1 k1 k2 BS BM BR U0 s0 s1 s2 s3 s4 s5 s6 s7 s8 s9 s10 s11 s12 s13 m0 m1 m2 m3 m4
 have b0 := (PS2.out.bs).at 0 _ rfl
 have b1 := (PS2.out.bs).at 1 _ rfl
 have b2 := (PS2.out.bs).at 2 _ rfl
 have b3 := (PS2.out.bs).at 3 _ rfl
 have b4 := (PS2.out.bs).at 4 _ rfl
 have b5 := (PS2.out.bs).at 5 _ rfl
 have b6 := (PS2.out.bs).at 6 _ rfl
 have b7 := (PS2.out.bs).at 7 _ rfl
 have b8 := (PS2.out.bs).at 8 _ rfl
 have b9 := (PS2.out.bs).at 9 _ rfl
 have b10 := (PS2.out.bs).at 10 _ rfl
 have b11 := (PS2.out.bs).at 11 _ rfl
 have b12 := (PS2.out.bs).at 12 _ rfl
 have b13 := (PS2.out.bs).at 13 _ rfl
 have r0 := (PS2.out.br).at 0 _ rfl
 have r1 := (PS2.out.br).at 1 _ rfl
 have r2 := (PS2.out.br).at 2 _ rfl
 have r3 := (PS2.out.br).at 3 _ rfl
 have r4 := (PS2.out.br).at 4 _ rfl
 have r5 := (PS2.out.br).at 5 _ rfl
 have r6 := (PS2.out.br).at 6 _ rfl
 have r7 := (PS2.out.br).at 7 _ rfl
 have r8 := (PS2.out.br).at 8 _ rfl
 have r9 := (PS2.out.br).at 9 _ rfl
 have r10 := (PS2.out.br).at 10 _ rfl
 have r11 := (PS2.out.br).at 11 _ rfl
 have r12 := (PS2.out.br).at 12 _ rfl
 have r13 := (PS2.out.br).at 13 _ rfl
 have m0 := (PS2.out.bm).at 0 _ rfl
 have m1 := (PS2.out.bm).at 1 _ rfl
 have m2 := (PS2.out.bm).at 2 _ rfl
 have m3 := (PS2.out.bm).at 3 _ rfl
 have m4 := (PS2.out.bm).at 4 _ rfl
 have bfz := PS2.out.bs.frozen
 have rfz := PS2.out.br.frozen
 have hlo1 := PS2.out.lo1
 have hlo2 := PS2.out.lo2
 have hhB := PS2.out.hB
 go_wp2_with fail
 obtain ⟨W3, hW3⟩ : ∃ W, W = setRow w.heap.size w2 0 [.int .i64 le, .int .i64 mo, .int .i64 now, .bool true, .int .i64 ze, .int .i64 fi, .int .i64 hi, .int .i64 ND, .int .i64 sp, .int .i64 tr, .slice A2 l2.length c2, .int .i64 la, .int .i64 tw, .int .i64 PD] := ⟨_, rfl⟩
 have PW3 := PS2.out.row [.int .i64 le, .int .i64 mo, .int .i64 now, .bool true, .int .i64 ze, .int .i64 fi, .int .i64 hi, .int .i64 ND, .int .i64 sp, .int .i64 tr, .slice A2 l2.length c2, .int .i64 la, .int .i64 tw, .int .i64 PD] rfl
 rw [← hW3] at PW3
 have PS3 := H9 PW3
 simp only [setRow, Nat.zero_add, Nat.reduceAdd] at hW3
 rw [← hW3]
 clear PW3 hW3 PS2
 have k3 := zav A2 l2 l2.length c2 (w.heap.size + 1) sq W3 rfl (by omega) PS3.out.q2.wts (PS3.out.bm.at 0 _ rfl) PS3.out.bm.lt
 rw [show ((l2.map TW.w).any fun x => x.m.sq == sq) = false from HANY.out] at k3
 refine k3.mono ?_
 rintro e w4 ⟨rfl, hb4⟩
 have PS4 := H9 (PS3.out.later hb4)
 clear hb4 k3 PS3 b0 r0 b1 r1 b2 r2 b3 r3 b4 r4 b5 r5 b6 r6 b7 r7 b8 r8 b9 r9 b10 r10 b11 r11 b12 r12 b13 r13 m0 m1 m2 m3 m4 bfz rfz
 obtain ⟨b0, b1, b2, b3, b4, b5, b6, b7, b8, b9, b10, b11, b12, b13⟩ := Blk.c14 PS4.out.bs
 obtain ⟨r0, r1, r2, r3, r4, r5, r6, r7, r8, r9, r10, r11, r12, r13⟩ := Blk.c14 PS4.out.br
 obtain ⟨m0, m1, m2, m3, m4⟩ := Blk.c5 PS4.out.bm
 have bfz := PS4.out.bs.frozen
 have rfz := PS4.out.br.frozen
 have hls' : ND < sq := HLS.out
 have qf := HFULL.out
 simp only [List.length_map] at qf
 have hfull' : (l2.length : Int) < 200 := by omega
 clear qf
 go_wp2_with fail
 have hat2 : ∀ a ∈ l2, 0 ≤ a.w.at_ ∧ a.w.at_ ≤ 562949953421312 := fun a ha => by
  have h9 := ((Jb.okQ_iff _ _ _).1 HOQ2.out).2.1 a.w (List.mem_map.2 ⟨a, ha, rfl⟩)
  have h8 := h9.2.1
  have h7 := h9.2.2.1
  omega
 refine (zbx le mo now true ze fi hi ND sp tr A2 l2 l2.length c2 la tw PD sq ti mk ty MA pl.length mc _ rfl hl22 PS4.out.q2.wts hnow0 hnow ti0 ti1 t0 t1 sb0 sb1 cf0 cf1 cf2 hat2 pl).mono ?_
 rintro e w5 ⟨rfl, hb5⟩
 generalize hS2 : Jb.meas ⟨le, mo, now, true, ze, fi, hi, ND, sp, tr, l2.map TW.w, la, tw, PD⟩ ⟨sq, ti, mk, ty, pl⟩ = s2
 rw [hS2] at HZF HLA HFAR
 have hmq := Jb.meas_q ⟨le, mo, now, true, ze, fi, hi, ND, sp, tr, l2.map TW.w, la, tw, PD⟩ ⟨sq, ti, mk, ty, pl⟩
 rw [hS2] at hmq
 obtain ⟨hmq1, hmq2, hmq3, hmq4⟩ := hmq
 have HS2 := H9 hS2
 have hl0 : 0 ≤ s2.late := by rw [hmq3]; exact la0
 have hl1 : s2.late ≤ 281474976710656 := by rw [hmq3]; exact la1
 have HMQ1 := H9 hmq1
 have HMQ2 := H9 hmq2
 clear hmq1 hmq2 hmq3 hmq4 hS2 hat2
 have PS5 := H9 (PS4.out.later hb5)
 clear hb5 PS4 b0 r0 b1 r1 b2 r2 b3 r3 b4 r4 b5 r5 b6 r6 b7 r7 b8 r8 b9 r9 b10 r10 b11 r11 b12 r12 b13 r13 m0 m1 m2 m3 m4 bfz rfz
 simp only [JV]
 obtain ⟨b0, b1, b2, b3, b4, b5, b6, b7, b8, b9, b10, b11, b12, b13⟩ := Blk.c14 PS5.out.bs
 obtain ⟨r0, r1, r2, r3, r4, r5, r6, r7, r8, r9, r10, r11, r12, r13⟩ := Blk.c14 PS5.out.br
 obtain ⟨m0, m1, m2, m3, m4⟩ := Blk.c5 PS5.out.bm
 have bfz := PS5.out.bs.frozen
 have rfz := PS5.out.br.frozen
 go_wp2_with fail
 obtain ⟨W5, hW5⟩ : ∃ W, W = setRow w.heap.size w5 0 [.int .i64 s2.least, .int .i64 s2.most, .int .i64 s2.now, .bool s2.on, .int .i64 s2.zero, .int .i64 s2.first, .int .i64 s2.high, .int .i64 s2.done, .int .i64 s2.spread, .int .i64 s2.trans, .slice A2 l2.length c2, .int .i64 s2.late, .int .i64 s2.twice, .int .i64 s2.played] := ⟨_, rfl⟩
 have PW5 := PS5.out.row [.int .i64 s2.least, .int .i64 s2.most, .int .i64 s2.now, .bool s2.on, .int .i64 s2.zero, .int .i64 s2.first, .int .i64 s2.high, .int .i64 s2.done, .int .i64 s2.spread, .int .i64 s2.trans, .slice A2 l2.length c2, .int .i64 s2.late, .int .i64 s2.twice, .int .i64 s2.played] rfl
 rw [← hW5] at PW5
 have PS6 := H9 PW5
 simp only [setRow, Nat.zero_add, Nat.reduceAdd] at hW5
 rw [← hW5]
 clear PW5 hW5 PS5
 refine (zbt s2.least s2.most s2.now s2.on s2.zero s2.first s2.high s2.done s2.spread s2.trans A2 l2.length c2 s2.late s2.twice s2.played ti W5 HZF.out.1.1 HZF.out.1.2 HZF.out.2.1 HZF.out.2.2 ti0 ti1).mono ?_
 rintro e w6 ⟨rfl, hb6⟩
 have hab : -1200000000000000 ≤ s2.zero + (ti - s2.first) / 8 ∧ s2.zero + (ti - s2.first) / 8 ≤ 1200000000000000 := by
  have := HZF.out.1.1
  have := HZF.out.1.2
  have := HZF.out.2.1
  have := HZF.out.2.2
  omega
 unfold Jb.ptime at HLA HFAR
 generalize hAT : s2.zero + (ti - s2.first) / 8 = AT at hab HLA HFAR ⊢
 have HAT := H9 hAT
 obtain ⟨at0, at1⟩ := hab
 have PS7 := H9 (PS6.out.later hb6)
 clear hb6 hAT PS6 b0 r0 b1 r1 b2 r2 b3 r3 b4 r4 b5 r5 b6 r6 b7 r7 b8 r8 b9 r9 b10 r10 b11 r11 b12 r12 b13 r13 m0 m1 m2 m3 m4 bfz rfz
 obtain ⟨b0, b1, b2, b3, b4, b5, b6, b7, b8, b9, b10, b11, b12, b13⟩ := Blk.c14 PS7.out.bs
 obtain ⟨r0, r1, r2, r3, r4, r5, r6, r7, r8, r9, r10, r11, r12, r13⟩ := Blk.c14 PS7.out.br
 obtain ⟨m0, m1, m2, m3, m4⟩ := Blk.c5 PS7.out.bm
 have bfz := PS7.out.bs.frozen
 have rfz := PS7.out.br.frozen
 have hla := HLA.out
 have hfar := HFAR.out
 go_wp2_with fail
 refine (zcr sq ti mk ty MA pl pl.length mc _ w.heap.size (Nat.le_of_lt (Nat.lt_of_le_of_lt (Nat.le_succ _) PS7.out.bm.lt)) (HMI.out.below PS7.out.u) (by omega) rfl).mono ?_
 rintro e w7 ⟨A9, c9, rfl, hI9, hb7, hcp9⟩
 have PS8 := H9 (PS7.out.later hb7)
 have HI9 := H9 hI9
 have hwb := hb7.size
 have PS9 := H9 (PS8.out.later ((Below.refl w7.heap.size w7).alloc (Nat.le_refl _) (.cells #[.int .i64 AT, .int .i64 sq, .int .i64 ti, .bool mk, .int .u8 ty, .slice A9 pl.length c9] 105)))
 clear hb7 hI9 b0 r0 b1 r1 b2 r2 b3 r3 b4 r4 b5 r5 b6 r6 b7 r7 b8 r8 b9 r9 b10 r10 b11 r11 b12 r12 b13 r13 m0 m1 m2 m3 m4 bfz rfz
 have hasc := ((Jb.okQ_iff _ _ _).1 HOQ2.out).2.2.1
 have hne9 : ∀ y ∈ l2.map TW.w, y.m.sq ≠ sq := fun y hy e => by
  have h9 := HANY.out
  rw [List.any_eq_false] at h9
  exact h9 y hy (by simpa using e)
 have HASC := H9 hasc
 have HNE := H9 hne9
 clear hasc hne9
 have hlw7 := PS8.out.bs.lt
 obtain ⟨b0, b1, b2, b3, b4, b5, b6, b7, b8, b9, b10, b11, b12, b13⟩ := Blk.c14 PS8.out.bs
 obtain ⟨r0, r1, r2, r3, r4, r5, r6, r7, r8, r9, r10, r11, r12, r13⟩ := Blk.c14 PS8.out.br
 obtain ⟨m0, m1, m2, m3, m4⟩ := Blk.c5 PS8.out.bm
 have bfz := PS8.out.bs.frozen
 have rfz := PS8.out.br.frozen
 go_wp2_with fail
 refine (zev A2 l2 l2.length c2 ⟨AT, ⟨sq, ti, mk, ty, pl⟩⟩ A9 pl.length c9 _ rfl (by omega) PS9.out.q2.wts HASC.out HNE.out).mono ?_
 rintro e w9 ⟨rfl, hb9⟩
 have hplace := zki (l2.map TW.w) ⟨AT, ⟨sq, ti, mk, ty, pl⟩⟩
 rw [List.length_map] at hplace
 have hsplit := zeu (l2.map TW.w) ⟨AT, ⟨sq, ti, mk, ty, pl⟩⟩
 generalize place (l2.map TW.w) ⟨AT, ⟨sq, ti, mk, ty, pl⟩⟩ = PP at hplace hsplit ⊢
 have HSPL := H9 hsplit
 have PS10 := H9 (PS9.out.later hb9)
 have HI10 := H9 (((HI9.out.push (.cells #[.int .i64 AT, .int .i64 sq, .int .i64 ti, .bool mk, .int .u8 ty, .slice A9 pl.length c9] 105))).later hb9)
 have BW := H9 ((Blk.new w7 105 #[.int .i64 AT, .int .i64 sq, .int .i64 ti, .bool mk, .int .u8 ty, .slice A9 pl.length c9]).later hb9)
 have hsz9 := hb9.size
 have hobl : ∀ g, ownB A2 = some g → g < w6.heap.size := fun g hg => (PS7.out.q2.own.block g hg).2
 have HOBL := H9 hobl
 clear hb9 hsplit hobl PS9 PS8 b0 r0 b1 r1 b2 r2 b3 r3 b4 r4 b5 r5 b6 r6 b7 r7 b8 r8 b9 r9 b10 r10 b11 r11 b12 r12 b13 r13 m0 m1 m2 m3 m4 bfz rfz
 have x0 := BW.out.at 0 _ rfl
 have x1 := BW.out.at 1 _ rfl
 have x2 := BW.out.at 2 _ rfl
 have x3 := BW.out.at 3 _ rfl
 have x4 := BW.out.at 4 _ rfl
 have x5 := BW.out.at 5 _ rfl
 have hlw9 := PS10.out.bs.lt
 have hlx9 := BW.out.lt
 obtain ⟨b0, b1, b2, b3, b4, b5, b6, b7, b8, b9, b10, b11, b12, b13⟩ := Blk.c14 PS10.out.bs
 obtain ⟨r0, r1, r2, r3, r4, r5, r6, r7, r8, r9, r10, r11, r12, r13⟩ := Blk.c14 PS10.out.br
 obtain ⟨m0, m1, m2, m3, m4⟩ := Blk.c5 PS10.out.bm
 have bfz := PS10.out.bs.frozen
 have rfz := PS10.out.br.frozen
 have PS11 := H9 (PS10.out.later ((Below.refl w9.heap.size w9).alloc (Nat.le_refl _) (.cells #[.int .i64 AT, .int .i64 sq, .int .i64 ti, .bool mk, .int .u8 ty, .slice A9 pl.length c9] 105)))
 have BV := H9 (Blk.new w9 105 #[.int .i64 AT, .int .i64 sq, .int .i64 ti, .bool mk, .int .u8 ty, .slice A9 pl.length c9])
 have HI11 := H9 (HI10.out.push (.cells #[.int .i64 AT, .int .i64 sq, .int .i64 ti, .bool mk, .int .u8 ty, .slice A9 pl.length c9] 105))
 have hwz : w6.heap.size < w9.heap.size := by simp at hsz9; omega
 go_wp2_with fail
 refine (zfr B l2.length c2 PP w9.heap.size A2 l2 ⟨⟨AT, ⟨sq, ti, mk, ty, pl⟩⟩, A9, c9⟩ _ (by omega) PS11.out.hB PS11.out.q2 hplace BV.out (fun e => by have h9 := HOBL.out _ e.symm; omega) HI11.out.1 (fun h0 b off e he => by have h9 := HI11.out.2 h0 b off e; have h8 := HOBL.out b he.symm; omega) (fun h0 b off e => by have h9 := HI11.out.2 h0 b off e; have hB6 := PS7.out.hB; omega) hcp9).mono ?_
 rintro e w11 ⟨A3, c3, rfl, hq3, hb3⟩
 have PS12 := H9 (PS11.out.ins hb3 hq3)
 have hl3m : (l2.take PP ++ (⟨⟨AT, ⟨sq, ti, mk, ty, pl⟩⟩, A9, c9⟩ : TW) :: l2.drop PP).map TW.w = Jb.ins (l2.map TW.w) ⟨AT, ⟨sq, ti, mk, ty, pl⟩⟩ := by rw [HSPL.out, List.map_append, List.map_cons, List.map_take, List.map_drop]
 generalize (l2.take PP ++ (⟨⟨AT, ⟨sq, ti, mk, ty, pl⟩⟩, A9, c9⟩ : TW) :: l2.drop PP) = l3 at PS12 hl3m
 have HL3 := H9 hl3m
 clear hb3 hq3 hl3m PS11 PS10 b0 r0 b1 r1 b2 r2 b3 r3 b4 r4 b5 r5 b6 r6 b7 r7 b8 r8 b9 r9 b10 r10 b11 r11 b12 r12 b13 r13 m0 m1 m2 m3 m4 bfz rfz x0 x1 x2 x3 x4 x5
 obtain ⟨b0, b1, b2, b3, b4, b5, b6, b7, b8, b9, b10, b11, b12, b13⟩ := Blk.c14 PS12.out.bs
 obtain ⟨r0, r1, r2, r3, r4, r5, r6, r7, r8, r9, r10, r11, r12, r13⟩ := Blk.c14 PS12.out.br
 obtain ⟨m0, m1, m2, m3, m4⟩ := Blk.c5 PS12.out.bm
 have bfz := PS12.out.bs.frozen
 have rfz := PS12.out.br.frozen
 go_wp2_with fail
 have PF : PSt w _ w1.heap.size B [.int .i64 s2.least, .int .i64 s2.most, .int .i64 s2.now, .bool s2.on, .int .i64 s2.zero, .int .i64 s2.first, .int .i64 s2.high, .int .i64 s2.done, .int .i64 s2.spread, .int .i64 s2.trans, .slice A3 (l2.length + 1) c3, .int .i64 s2.late, .int .i64 s2.twice, .int .i64 s2.played] [.int .i64 sq, .int .i64 ti, .bool mk, .int .u8 ty, .slice MA pl.length mc] A1 l1 A3 (l2.length + 1) c3 l3 := PS12.out.set 10 (.slice A3 (l2.length + 1) c3)
 obtain ⟨BF, F1, F2, F3, F4, F5, UF⟩ := PF.finW [.int .i64 s2.least, .int .i64 s2.most, .int .i64 s2.now, .bool s2.on, .int .i64 s2.zero, .int .i64 s2.first, .int .i64 s2.high, .int .i64 s2.done, .int .i64 s2.spread, .int .i64 s2.trans, .slice A3 (l2.length + 1) c3, .int .i64 s2.late, .int .i64 s2.twice, .int .i64 s2.played] rfl
 simp only [setRow, Nat.zero_add, Nat.reduceAdd] at BF F1 F2 UF
 have hp : Jb.put0 ⟨le, mo, now, true, ze, fi, hi, ND, sp, tr, l2.map TW.w, la, tw, PD⟩ ⟨sq, ti, mk, ty, pl⟩ = ({ s2 with q := Jb.ins s2.q ⟨AT, ⟨sq, ti, mk, ty, pl⟩⟩ }, 1) := by
  rw [zco _ _ HANY.out (fun h => absurd h.2 (Int.not_le.2 HLS.out)) (Nat.not_le.2 HFULL.out) s2 AT HS2.out HAT.out]
  rw [if_neg (show ¬AT ≤ now from Int.not_le.2 HLA.out)]
  exact if_neg (Int.not_lt.2 HFAR.out)
 refine bodyPost_ret (v := .tuple #[.agg (List.toArray [.int .i64 s2.least, .int .i64 s2.most, .int .i64 s2.now, .bool s2.on, .int .i64 s2.zero, .int .i64 s2.first, .int .i64 s2.high, .int .i64 s2.done, .int .i64 s2.spread, .int .i64 s2.trans, .slice A3 (l2.length + 1) c3, .int .i64 s2.late, .int .i64 s2.twice, .int .i64 s2.played]), .slice A1 l1.length c1, .int .u8 1, .int .u8 0]) (zbm Tryz.results46 rfl (run_loadVar_row (P := Tryz.prog) _ _ _ _ _ _ _ BF Tryz.underlying40 rfl (by kernel_rfl)) rfl rfl rfl) rfl ⟨A1, c1, l1, A3, c3, l3, ?_, ?_, ?_, F1, F2, by rw [F3]; exact F4, F5, UF, HCA.out.1, HCA.out.2⟩
 · rw [HPUT.out, hp, F3]; rfl
 · rw [HPUT.out]; exact HM1.out
 · rw [HPUT.out, hp]; rw [HL3.out]; exact congrArg (fun q => Jb.ins q _) HMQ1.out.symm
theorem zqn (le mo nw : Int) (on : Bool) (ze fi hi dn sp tr : Int) (A : Option Addr) (l : List TW) (n qc : Nat) (la tw pd : Int) (now : Int) (sq ti : Int) (mk : Bool) (ty : Int) (MA : Option Addr) (mn mc : Nat) (pl : List Int) (w : World) (hn : l.length = n) (hmn : pl.length = mn) (hl : n ≤ 100000) (hm9 : mn ≤ 100000) (hcap : n ≤ qc) (hcm : qc ≤ maxLen) (hA : Wts w w.heap.size A l) (hK : ∀ a ∈ l, I64 a.w.m.sq) (hMI : IntsAt w w.heap.size .u8 MA pl) : Calls Tryz.prog 46 #[.agg #[.int .i64 le, .int .i64 mo, .int .i64 nw, .bool on, .int .i64 ze, .int .i64 fi, .int .i64 hi, .int .i64 dn, .int .i64 sp, .int .i64 tr, .slice A n qc, .int .i64 la, .int .i64 tw, .int .i64 pd], .int .i64 now, .agg #[.int .i64 sq, .int .i64 ti, .bool mk, .int .u8 ty, .slice MA mn mc]] w (JPutW ⟨le, mo, nw, on, ze, fi, hi, dn, sp, tr, l.map TW.w, la, tw, pd⟩ now ⟨sq, ti, mk, ty, pl⟩ w) := by
 by_cases hr0 : Jb.chk ⟨le, mo, nw, on, ze, fi, hi, dn, sp, tr, l.map TW.w, la, tw, pd⟩ now (decide (Jb.Md.ok ⟨sq, ti, mk, ty, pl⟩)) = 0
 rotate_left
 · exact zpc le mo nw on ze fi hi dn sp tr A l n qc la tw pd now sq ti mk ty MA mn mc pl w hn hmn hl hm9 hcap hcm hA hK hMI hr0
 cases hany : ((Jb.run0 ⟨le, mo, nw, on, ze, fi, hi, dn, sp, tr, l.map TW.w, la, tw, pd⟩ now).q.any fun w => w.m.sq == sq)
 rotate_left
 · exact zkz le mo nw on ze fi hi dn sp tr A l n qc la tw pd now sq ti mk ty MA mn mc pl w hn hmn hl hm9 hcap hcm hA hK hMI hr0 hany
 cases on
 · by_cases qf : 200 ≤ (Jb.run0 ⟨le, mo, nw, false, ze, fi, hi, dn, sp, tr, l.map TW.w, la, tw, pd⟩ now).q.length
   · exact zla le mo nw ze fi hi dn sp tr A l n qc la tw pd now sq ti mk ty MA mn mc pl w hn hmn hl hm9 hcap hcm hA hK hMI hr0 hany qf
   by_cases hla : (Jb.ptime (Jb.meas (Jb.run0 ⟨le, mo, nw, false, ze, fi, hi, dn, sp, tr, l.map TW.w, la, tw, pd⟩ now) (⟨sq, ti, mk, ty, pl⟩ : Jb.Md)) ti) ≤ now
   · exact zlh le mo nw ze fi hi dn sp tr A l n qc la tw pd now sq ti mk ty MA mn mc pl w hn hmn hl hm9 hcap hcm hA hK hMI hr0 hany (Nat.lt_of_not_le qf) hla
   by_cases hfar : now + 120000 < (Jb.ptime (Jb.meas (Jb.run0 ⟨le, mo, nw, false, ze, fi, hi, dn, sp, tr, l.map TW.w, la, tw, pd⟩ now) (⟨sq, ti, mk, ty, pl⟩ : Jb.Md)) ti)
   · exact zou le mo nw ze fi hi dn sp tr A l n qc la tw pd now sq ti mk ty MA mn mc pl w hn hmn hl hm9 hcap hcm hA hK hMI hr0 hany (Nat.lt_of_not_le qf) (Int.not_le.1 hla) hfar
   · exact zlf le mo nw ze fi hi dn sp tr A l n qc la tw pd now sq ti mk ty MA mn mc pl w hn hmn hl hm9 hcap hcm hA hK hMI hr0 hany (Nat.lt_of_not_le qf) (Int.not_le.1 hla) (Int.not_lt.1 hfar)
 by_cases hls : sq ≤ (Jb.run0 ⟨le, mo, nw, true, ze, fi, hi, dn, sp, tr, l.map TW.w, la, tw, pd⟩ now).done
 · exact znb le mo nw ze fi hi dn sp tr A l n qc la tw pd now sq ti mk ty MA mn mc pl w hn hmn hl hm9 hcap hcm hA hK hMI hr0 hany hls
 replace hls := Int.not_le.1 hls
 by_cases qf : 200 ≤ (Jb.run0 ⟨le, mo, nw, true, ze, fi, hi, dn, sp, tr, l.map TW.w, la, tw, pd⟩ now).q.length
 · exact zlg le mo nw ze fi hi dn sp tr A l n qc la tw pd now sq ti mk ty MA mn mc pl w hn hmn hl hm9 hcap hcm hA hK hMI hr0 hany hls qf
 by_cases hla : (Jb.ptime (Jb.meas (Jb.run0 ⟨le, mo, nw, true, ze, fi, hi, dn, sp, tr, l.map TW.w, la, tw, pd⟩ now) (⟨sq, ti, mk, ty, pl⟩ : Jb.Md)) ti) ≤ now
 · exact zmp le mo nw ze fi hi dn sp tr A l n qc la tw pd now sq ti mk ty MA mn mc pl w hn hmn hl hm9 hcap hcm hA hK hMI hr0 hany hls (Nat.lt_of_not_le qf) hla
 by_cases hfar : now + 120000 < (Jb.ptime (Jb.meas (Jb.run0 ⟨le, mo, nw, true, ze, fi, hi, dn, sp, tr, l.map TW.w, la, tw, pd⟩ now) (⟨sq, ti, mk, ty, pl⟩ : Jb.Md)) ti)
 · exact zng le mo nw ze fi hi dn sp tr A l n qc la tw pd now sq ti mk ty MA mn mc pl w hn hmn hl hm9 hcap hcm hA hK hMI hr0 hany hls (Nat.lt_of_not_le qf) (Int.not_le.1 hla) hfar
 · exact zmj le mo nw ze fi hi dn sp tr A l n qc la tw pd now sq ti mk ty MA mn mc pl w hn hmn hl hm9 hcap hcm hA hK hMI hr0 hany hls (Nat.lt_of_not_le qf) (Int.not_le.1 hla) (Int.not_lt.1 hfar)
theorem zqo (s : Jb.Jt) (A : Option Addr) (l : List TW) (n c : Nat) (now : Int) (m : Jb.Md) (MA : Option Addr) (mn mc : Nat) (w : World) (hq : l.map TW.w = s.q) (hn : l.length = n) (hl : n ≤ 100000) (hcap : n ≤ c) (hcm : c ≤ maxLen) (hA : Wts w w.heap.size A l) (hK : ∀ a ∈ l, I64 a.w.m.sq) (hmn : m.pl.length = mn) (hm9 : mn ≤ 100000) (hMI : IntsAt w w.heap.size .u8 MA m.pl) : Calls Tryz.prog 46 #[.agg #[.int .i64 s.least, .int .i64 s.most, .int .i64 s.now, .bool s.on, .int .i64 s.zero, .int .i64 s.first, .int .i64 s.high, .int .i64 s.done, .int .i64 s.spread, .int .i64 s.trans, .slice A n c, .int .i64 s.late, .int .i64 s.twice, .int .i64 s.played], .int .i64 now, .agg #[.int .i64 m.sq, .int .i64 m.ti, .bool m.mrk, .int .u8 m.ty, .slice MA mn mc]] w (JPutW s now m w) := by
 obtain ⟨le, mo, nw, on, ze, fi, hi, dn, sp, tr, q, la, tw, pd⟩ := s
 obtain ⟨sq, ti, mk, ty, pl⟩ := m
 simp only at hq hmn hMI ⊢
 subst hq
 exact zqn le mo nw on ze fi hi dn sp tr A l n c la tw pd now sq ti mk ty MA mn mc pl w hn hmn hl hm9 hcap hcm hA hK hMI
theorem zqp (s : Jb.Jt) (A : Option Addr) (l : List TW) (n c : Nat) (now : Int) (w : World) (hq : l.map TW.w = s.q) (hn : l.length = n) (hl : n ≤ 100000) (hcap : n ≤ c) (hcm : c ≤ maxLen) (hA : Wts w w.heap.size A l) (hK : ∀ a ∈ l, I64 a.w.m.sq) : Calls Tryz.prog 95 #[.agg #[.int .i64 s.least, .int .i64 s.most, .int .i64 s.now, .bool s.on, .int .i64 s.zero, .int .i64 s.first, .int .i64 s.high, .int .i64 s.done, .int .i64 s.spread, .int .i64 s.trans, .slice A n c, .int .i64 s.late, .int .i64 s.twice, .int .i64 s.played], .int .i64 now] w (JRunW s now w) := by
 obtain ⟨le, mo, nw, on, ze, fi, hi, dn, sp, tr, q, la, tw, pd⟩ := s
 simp only at hq ⊢
 subst hq
 exact zpm le mo nw on ze fi hi dn sp tr A l n c la tw pd now w hn hl hcap hcm hA hK
theorem zqq (s : Jb.Jt) (A : Option Addr) (l : List TW) (n c : Nat) (w : World) (hq : l.map TW.w = s.q) (hn : l.length = n) (hl : n ≤ 100000) (hA : Wts w w.heap.size A l) (hK : ∀ a ∈ l, I64 a.w.m.sq) (v : Bool) (hv : v = Jb.valid s) : Calls Tryz.prog 65 #[.agg #[.int .i64 s.least, .int .i64 s.most, .int .i64 s.now, .bool s.on, .int .i64 s.zero, .int .i64 s.first, .int .i64 s.high, .int .i64 s.done, .int .i64 s.spread, .int .i64 s.trans, .slice A n c, .int .i64 s.late, .int .i64 s.twice, .int .i64 s.played]] w fun e w' => e = .returned (.bool v) ∧ Below w.heap.size w w' := by
 obtain ⟨le, mo, nw, on, ze, fi, hi, dn, sp, tr, q, la, tw, pd⟩ := s
 simp only at hq ⊢
 subst hq
 exact zht le mo nw on ze fi hi dn sp tr A l n c la tw pd w hn hl hA hK v hv
def NewR (l m : Int) (w : World) (e : Ending) (w' : World) : Prop := e = .returned (.tuple #[JV (Jb.new l m).1 none 0 0, .int .u8 (Jb.new l m).2]) ∧ Below w.heap.size w w'
theorem zsm (l m : Int) (w : World) : Calls Tryz.prog 62 #[.agg #[.int .i64 l, .int .i64 m]] w (NewR l m w) := by
 obtain ⟨cv, hcv⟩ : ∃ cv, cv = decide (Jb.cfg l m) := ⟨_, rfl⟩
 have k1 := H9 fun W => zfv l m W cv hcv
 have HC := H9 hcv
 clear hcv
 have U0 := H9 (((Bel.refl w).push (.cells #[.int .i64 l, .int .i64 m] 37)).push (.cells #[.int .i64 0, .int .i64 0, .int .i64 0, .bool false, .int .i64 0, .int .i64 0, .int .i64 0, .int .i64 0, .int .i64 0, .int .i64 0, .slice none 0 0, .int .i64 0, .int .i64 0, .int .i64 0] 40))
 have BC := H9 ((Blk.new w 37 #[.int .i64 l, .int .i64 m]).push (.cells #[.int .i64 0, .int .i64 0, .int .i64 0, .bool false, .int .i64 0, .int .i64 0, .int .i64 0, .int .i64 0, .int .i64 0, .int .i64 0, .slice none 0 0, .int .i64 0, .int .i64 0, .int .i64 0] 40))
 have BR := H9 (Blk.new1 w (.cells #[.int .i64 l, .int .i64 m] 37) 40 #[.int .i64 0, .int .i64 0, .int .i64 0, .bool false, .int .i64 0, .int .i64 0, .int .i64 0, .int .i64 0, .int .i64 0, .int .i64 0, .slice none 0 0, .int .i64 0, .int .i64 0, .int .i64 0])
 cases cv
 · go_enter Tryz.func62, Tryz.ntmps62
   go_wp2_with fail
   refine (k1.out _).mono ?_
   rintro e w1 ⟨rfl, hb1⟩
   have U1 := H9 (U0.out.later hb1)
   have BC1 := H9 (BC.out.later hb1)
   have BR1 := H9 (BR.out.later hb1)
   clear hb1
   have c0 := (BC1.out).at 0 _ rfl
   have c1 := (BC1.out).at 1 _ rfl
   have r0 := (BR1.out).at 0 _ rfl
   have r1 := (BR1.out).at 1 _ rfl
   have r2 := (BR1.out).at 2 _ rfl
   have r3 := (BR1.out).at 3 _ rfl
   have r4 := (BR1.out).at 4 _ rfl
   have r5 := (BR1.out).at 5 _ rfl
   have r6 := (BR1.out).at 6 _ rfl
   have r7 := (BR1.out).at 7 _ rfl
   have r8 := (BR1.out).at 8 _ rfl
   have r9 := (BR1.out).at 9 _ rfl
   have r10 := (BR1.out).at 10 _ rfl
   have r11 := (BR1.out).at 11 _ rfl
   have r12 := (BR1.out).at 12 _ rfl
   have r13 := (BR1.out).at 13 _ rfl
   have rfz := BR1.out.frozen
   have hs1 := BR1.out.lt
   go_wp2_with fail
   have BF := Blk.setRow BR1.out [.int .i64 0, .int .i64 0, .int .i64 0, .bool false, .int .i64 0, .int .i64 0, .int .i64 0, .int .i64 0, .int .i64 0, .int .i64 0, .slice none 0 0, .int .i64 0, .int .i64 0, .int .i64 0] rfl
   have UF := below_setRow (g := w.heap.size + 1) (by omega) [.int .i64 0, .int .i64 0, .int .i64 0, .bool false, .int .i64 0, .int .i64 0, .int .i64 0, .int .i64 0, .int .i64 0, .int .i64 0, .slice none 0 0, .int .i64 0, .int .i64 0, .int .i64 0] _ 0 U1.out
   simp only [setRow, Nat.zero_add, Nat.reduceAdd] at BF UF
   have hn : Jb.new l m = (Jb.Jt.none, 3) := by unfold Jb.new; exact if_neg (by have h9 := HC.out; rw [eq_comm, decide_eq_false_iff_not] at h9; exact h9)
   exact bodyPost_ret (v := .tuple #[.agg (List.toArray [.int .i64 0, .int .i64 0, .int .i64 0, .bool false, .int .i64 0, .int .i64 0, .int .i64 0, .int .i64 0, .int .i64 0, .int .i64 0, .slice none 0 0, .int .i64 0, .int .i64 0, .int .i64 0]), .int .u8 3]) (zat Tryz.results62 rfl (run_loadVar_row (P := Tryz.prog) _ _ _ _ _ _ _ BF Tryz.underlying40 rfl (by kernel_rfl)) rfl) rfl ⟨by rw [hn]; rfl, UF⟩
 · go_enter Tryz.func62, Tryz.ntmps62
   go_wp2_with fail
   refine (k1.out _).mono ?_
   rintro e w1 ⟨rfl, hb1⟩
   have U1 := H9 (U0.out.later hb1)
   have BC1 := H9 (BC.out.later hb1)
   have BR1 := H9 (BR.out.later hb1)
   clear hb1
   have c0 := (BC1.out).at 0 _ rfl
   have c1 := (BC1.out).at 1 _ rfl
   have r0 := (BR1.out).at 0 _ rfl
   have r1 := (BR1.out).at 1 _ rfl
   have r2 := (BR1.out).at 2 _ rfl
   have r3 := (BR1.out).at 3 _ rfl
   have r4 := (BR1.out).at 4 _ rfl
   have r5 := (BR1.out).at 5 _ rfl
   have r6 := (BR1.out).at 6 _ rfl
   have r7 := (BR1.out).at 7 _ rfl
   have r8 := (BR1.out).at 8 _ rfl
   have r9 := (BR1.out).at 9 _ rfl
   have r10 := (BR1.out).at 10 _ rfl
   have r11 := (BR1.out).at 11 _ rfl
   have r12 := (BR1.out).at 12 _ rfl
   have r13 := (BR1.out).at 13 _ rfl
   have rfz := BR1.out.frozen
   have hs1 := BR1.out.lt
   go_wp2_with fail
   have BF := Blk.setRow BR1.out [.int .i64 l, .int .i64 m, .int .i64 0, .bool false, .int .i64 0, .int .i64 0, .int .i64 (-1), .int .i64 (-1), .int .i64 0, .int .i64 0, .slice none 0 0, .int .i64 0, .int .i64 0, .int .i64 0] rfl
   have UF := below_setRow (g := w.heap.size + 1) (by omega) [.int .i64 l, .int .i64 m, .int .i64 0, .bool false, .int .i64 0, .int .i64 0, .int .i64 (-1), .int .i64 (-1), .int .i64 0, .int .i64 0, .slice none 0 0, .int .i64 0, .int .i64 0, .int .i64 0] _ 0 U1.out
   simp only [setRow, Nat.zero_add, Nat.reduceAdd] at BF UF
   have hn : Jb.new l m = (⟨l, m, 0, false, 0, 0, -1, -1, 0, 0, [], 0, 0, 0⟩, 0) := by unfold Jb.new; exact if_pos (by have h9 := HC.out; rw [eq_comm, decide_eq_true_iff] at h9; exact h9)
   exact bodyPost_ret (v := .tuple #[.agg (List.toArray [.int .i64 l, .int .i64 m, .int .i64 0, .bool false, .int .i64 0, .int .i64 0, .int .i64 (-1), .int .i64 (-1), .int .i64 0, .int .i64 0, .slice none 0 0, .int .i64 0, .int .i64 0, .int .i64 0]), .int .u8 0]) (zat Tryz.results62 rfl (run_loadVar_row (P := Tryz.prog) _ _ _ _ _ _ _ BF Tryz.underlying40 rfl (by kernel_rfl)) rfl) rfl ⟨by rw [hn]; rfl, UF⟩
theorem zqr (l m : Int) (w : World) : Calls Tryz.prog 63 #[.agg #[.int .i64 l, .int .i64 m]] w (NewR l m w) := by
 obtain ⟨cv, hcv⟩ : ∃ cv, cv = decide (Jb.cfg l m) := ⟨_, rfl⟩
 have k1 := H9 fun W => zff l m W cv hcv
 have HC := H9 hcv
 clear hcv
 have U0 := H9 (((Bel.refl w).push (.cells #[.int .i64 l, .int .i64 m] 37)).push (.cells #[.int .i64 0, .int .i64 0, .int .i64 0, .bool false, .int .i64 0, .int .i64 0, .int .i64 0, .int .i64 0, .int .i64 0, .int .i64 0, .slice none 0 0, .int .i64 0, .int .i64 0, .int .i64 0] 40))
 have BC := H9 ((Blk.new w 37 #[.int .i64 l, .int .i64 m]).push (.cells #[.int .i64 0, .int .i64 0, .int .i64 0, .bool false, .int .i64 0, .int .i64 0, .int .i64 0, .int .i64 0, .int .i64 0, .int .i64 0, .slice none 0 0, .int .i64 0, .int .i64 0, .int .i64 0] 40))
 have BR := H9 (Blk.new1 w (.cells #[.int .i64 l, .int .i64 m] 37) 40 #[.int .i64 0, .int .i64 0, .int .i64 0, .bool false, .int .i64 0, .int .i64 0, .int .i64 0, .int .i64 0, .int .i64 0, .int .i64 0, .slice none 0 0, .int .i64 0, .int .i64 0, .int .i64 0])
 cases cv
 · go_enter Tryz.func63, Tryz.ntmps63
   go_wp2_with fail
   refine (k1.out _).mono ?_
   rintro e w1 ⟨rfl, hb1⟩
   have U1 := H9 (U0.out.later hb1)
   have BC1 := H9 (BC.out.later hb1)
   have BR1 := H9 (BR.out.later hb1)
   clear hb1
   have c0 := (BC1.out).at 0 _ rfl
   have c1 := (BC1.out).at 1 _ rfl
   have r0 := (BR1.out).at 0 _ rfl
   have r1 := (BR1.out).at 1 _ rfl
   have r2 := (BR1.out).at 2 _ rfl
   have r3 := (BR1.out).at 3 _ rfl
   have r4 := (BR1.out).at 4 _ rfl
   have r5 := (BR1.out).at 5 _ rfl
   have r6 := (BR1.out).at 6 _ rfl
   have r7 := (BR1.out).at 7 _ rfl
   have r8 := (BR1.out).at 8 _ rfl
   have r9 := (BR1.out).at 9 _ rfl
   have r10 := (BR1.out).at 10 _ rfl
   have r11 := (BR1.out).at 11 _ rfl
   have r12 := (BR1.out).at 12 _ rfl
   have r13 := (BR1.out).at 13 _ rfl
   have rfz := BR1.out.frozen
   have hs1 := BR1.out.lt
   go_wp2_with fail
   have BF := Blk.setRow BR1.out [.int .i64 0, .int .i64 0, .int .i64 0, .bool false, .int .i64 0, .int .i64 0, .int .i64 0, .int .i64 0, .int .i64 0, .int .i64 0, .slice none 0 0, .int .i64 0, .int .i64 0, .int .i64 0] rfl
   have UF := below_setRow (g := w.heap.size + 1) (by omega) [.int .i64 0, .int .i64 0, .int .i64 0, .bool false, .int .i64 0, .int .i64 0, .int .i64 0, .int .i64 0, .int .i64 0, .int .i64 0, .slice none 0 0, .int .i64 0, .int .i64 0, .int .i64 0] _ 0 U1.out
   simp only [setRow, Nat.zero_add, Nat.reduceAdd] at BF UF
   have hn : Jb.new l m = (Jb.Jt.none, 3) := by unfold Jb.new; exact if_neg (by have h9 := HC.out; rw [eq_comm, decide_eq_false_iff_not] at h9; exact h9)
   exact bodyPost_ret (v := .tuple #[.agg (List.toArray [.int .i64 0, .int .i64 0, .int .i64 0, .bool false, .int .i64 0, .int .i64 0, .int .i64 0, .int .i64 0, .int .i64 0, .int .i64 0, .slice none 0 0, .int .i64 0, .int .i64 0, .int .i64 0]), .int .u8 3]) (zat Tryz.results63 rfl (run_loadVar_row (P := Tryz.prog) _ _ _ _ _ _ _ BF Tryz.underlying40 rfl (by kernel_rfl)) rfl) rfl ⟨by rw [hn]; rfl, UF⟩
 · go_enter Tryz.func63, Tryz.ntmps63
   go_wp2_with fail
   refine (k1.out _).mono ?_
   rintro e w1 ⟨rfl, hb1⟩
   have U1 := H9 (U0.out.later hb1)
   have BC1 := H9 (BC.out.later hb1)
   have BR1 := H9 (BR.out.later hb1)
   clear hb1
   have c0 := (BC1.out).at 0 _ rfl
   have c1 := (BC1.out).at 1 _ rfl
   have r0 := (BR1.out).at 0 _ rfl
   have r1 := (BR1.out).at 1 _ rfl
   have r2 := (BR1.out).at 2 _ rfl
   have r3 := (BR1.out).at 3 _ rfl
   have r4 := (BR1.out).at 4 _ rfl
   have r5 := (BR1.out).at 5 _ rfl
   have r6 := (BR1.out).at 6 _ rfl
   have r7 := (BR1.out).at 7 _ rfl
   have r8 := (BR1.out).at 8 _ rfl
   have r9 := (BR1.out).at 9 _ rfl
   have r10 := (BR1.out).at 10 _ rfl
   have r11 := (BR1.out).at 11 _ rfl
   have r12 := (BR1.out).at 12 _ rfl
   have r13 := (BR1.out).at 13 _ rfl
   have rfz := BR1.out.frozen
   have hs1 := BR1.out.lt
   go_wp2_with fail
   have BF := Blk.setRow BR1.out [.int .i64 l, .int .i64 m, .int .i64 0, .bool false, .int .i64 0, .int .i64 0, .int .i64 (-1), .int .i64 (-1), .int .i64 0, .int .i64 0, .slice none 0 0, .int .i64 0, .int .i64 0, .int .i64 0] rfl
   have UF := below_setRow (g := w.heap.size + 1) (by omega) [.int .i64 l, .int .i64 m, .int .i64 0, .bool false, .int .i64 0, .int .i64 0, .int .i64 (-1), .int .i64 (-1), .int .i64 0, .int .i64 0, .slice none 0 0, .int .i64 0, .int .i64 0, .int .i64 0] _ 0 U1.out
   simp only [setRow, Nat.zero_add, Nat.reduceAdd] at BF UF
   have hn : Jb.new l m = (⟨l, m, 0, false, 0, 0, -1, -1, 0, 0, [], 0, 0, 0⟩, 0) := by unfold Jb.new; exact if_pos (by have h9 := HC.out; rw [eq_comm, decide_eq_true_iff] at h9; exact h9)
   exact bodyPost_ret (v := .tuple #[.agg (List.toArray [.int .i64 l, .int .i64 m, .int .i64 0, .bool false, .int .i64 0, .int .i64 0, .int .i64 (-1), .int .i64 (-1), .int .i64 0, .int .i64 0, .slice none 0 0, .int .i64 0, .int .i64 0, .int .i64 0]), .int .u8 0]) (zat Tryz.results63 rfl (run_loadVar_row (P := Tryz.prog) _ _ _ _ _ _ _ BF Tryz.underlying40 rfl (by kernel_rfl)) rfl) rfl ⟨by rw [hn]; rfl, UF⟩
theorem zom (v i : Int) (w : World) : Calls Tryz.prog 64 #[.agg #[.int .i64 v, .int .i64 i]] w fun e w' => e = .returned (.bool (Dlt.valid v i)) ∧ Below w.heap.size w w' := by
 refine (zhf v i w).mono ?_
 rintro e w' ⟨rfl, rfl⟩
 exact ⟨rfl, (Below.refl _ _).alloc (Nat.le_refl _) _⟩
theorem rel2 (s : Ev.Snd) : ((Ev.release s).2 == 2) = !s.valid := by
 unfold Ev.release
 cases s.valid
 · rfl
 · cases s.on <;> rfl
theorem zmk {p : Sb.Pt} (h1 : true = speechB p.codec) (h2 : true = Dlt.valid p.cv p.ci) (h3 : true = Jb.valid p.jt) (h4 : true = p.tn.valid) : p.valid = decide p.near := by
 unfold Sb.Pt.valid
 rw [← h1, ← h2, ← h3, ← h4]; rfl
theorem zce (p : Sb.Pt) (hw : p.wf) (A : Option Addr) (l : List TW) (n c : Nat) (X : Array Value) (hX : X = PA p A n c) (w : World) (hq : l.map TW.w = p.jt.q) (hn : l.length = n) (hl : n ≤ 100000) (hA : Wts w w.heap.size A l) (hK : ∀ a ∈ l, I64 a.w.m.sq) (v : Bool) (hv : v = p.valid) : Calls Tryz.prog 21 #[.agg X] w fun e w' => e = .returned (.bool v) ∧ Below w.heap.size w w' := by
 have PB0 := H9 (PB.new w X hX)
 have U0 := H9 ((Bel.refl w).push (.cells X 48))
 have HA := H9 (hA.push (.cells X 48))
 have HV := H9 hv
 obtain ⟨v1, hv1⟩ : ∃ v, v = speechB p.codec := ⟨_, rfl⟩
 obtain ⟨v2, hv2⟩ : ∃ v, v = Dlt.valid p.cv p.ci := ⟨_, rfl⟩
 obtain ⟨v3, hv3⟩ : ∃ v, v = Jb.valid p.jt := ⟨_, rfl⟩
 obtain ⟨v4, hv4⟩ : ∃ v, v = p.tn.valid := ⟨_, rfl⟩
 have k1 := H9 fun W => zds p.codec W hw.codec.1 hw.codec.2
 have k2 := H9 fun W => zom p.cv p.ci W
 have k3 := H9 fun (W : World) hW => zqq p.jt A l n c W hq hn hl hW hK v3 hv3
 have k4 : ∀ W, Calls Tryz.prog 66 #[.agg #[.bool p.tn.on, .int .u8 p.tn.code, .int .u8 p.tn.vol, .int .u32 p.tn.start, .int .i64 p.tn.len, .int .i64 p.tn.ends]] W fun e w' => e = .returned (.tuple #[.agg (Ev.release p.tn).1.row, .int .u8 (Ev.release p.tn).2]) ∧ Below W.heap.size W w' := fun W => zeq p.tn.on p.tn.code p.tn.vol p.tn.start p.tn.len p.tn.ends W
 have h4 := rel2 p.tn
 rw [← hv4] at h4
 generalize (Ev.release p.tn).1 = s4 at k4
 generalize (Ev.release p.tn).2 = r4 at k4 h4
 simp only [Ev.Snd.row] at k4
 replace k4 := H9 k4
 have HR := H9 (fun h1 h2 h3 h4 => @zmk p h1 h2 h3 h4)
 rw [← hv1] at k1
 rw [← hv2] at k2
 have H1 := H9 hv1
 have H2 := H9 hv2
 have H3 := H9 hv3
 have H5 := H9 hv4
 clear hX hA hv hK hq hv1 hv2 hv3 hv4
 go_enter Tryz.func21, Tryz.ntmps21
 go_upto_region 1 with fail
 obtain ⟨W, hW⟩ : ∃ W, W = w.alloc (Obj.cells X 48) := ⟨_, rfl⟩
 rw [← hW] at PB0 U0 HA ⊢
 clear hW
 obtain ⟨g, hg⟩ : ∃ g, g = w.heap.size := ⟨_, rfl⟩
 rw [← hg] at PB0 ⊢
 clear hg
 have c0 := PB0.out.cell 0 _ rfl
 go_wp2_with fail
 refine (k1.out _).mono ?_
 rintro e w1 ⟨rfl, hb1⟩
 replace U0 := H9 (U0.out.later hb1)
 replace PB0 := H9 (PB0.out.later hb1)
 replace HA := H9 (HA.out.later hb1)
 clear hb1 c0
 cases v1
 · obtain rfl : v = false := by rw [HV.out]; unfold Sb.Pt.valid; rw [← H1.out]; rfl
   go_wp2_with fail
   go_ret
   exact ⟨rfl, U0.out⟩
 obtain ⟨x6, x7⟩ := PB0.out.cd
 go_wp2_with fail
 refine (k2.out _).mono ?_
 rintro e w2 ⟨rfl, hb1⟩
 replace U0 := H9 (U0.out.later hb1)
 replace PB0 := H9 (PB0.out.later hb1)
 replace HA := H9 (HA.out.later hb1)
 clear hb1 x6 x7
 cases v2
 · obtain rfl : v = false := by rw [HV.out]; unfold Sb.Pt.valid; rw [← H2.out]; simp
   go_wp2_with fail
   go_ret
   exact ⟨rfl, U0.out⟩
 obtain ⟨x14, x15, x16, x17, x18, x19, x20, x21, x22, x23, x24, x25, x26, x27⟩ := PB0.out.jt
 go_wp2_with fail
 refine (k3.out _ HA.out).mono ?_
 rintro e w3 ⟨rfl, hb1⟩
 replace U0 := H9 (U0.out.later hb1)
 replace PB0 := H9 (PB0.out.later hb1)
 clear hb1 HA x14 x15 x16 x17 x18 x19 x20 x21 x22 x23 x24 x25 x26 x27
 cases v3
 · obtain rfl : v = false := by rw [HV.out]; unfold Sb.Pt.valid; rw [← H3.out]; simp
   go_wp2_with fail
   go_ret
   exact ⟨rfl, U0.out⟩
 obtain ⟨x8, x9, x10, x11, x12, x13⟩ := PB0.out.tn
 go_wp2_with fail
 refine (k4.out _).mono ?_
 rintro e w4 ⟨rfl, hb1⟩
 replace U0 := H9 (U0.out.later hb1)
 replace PB0 := H9 (PB0.out.later hb1)
 clear hb1 x8 x9 x10 x11 x12 x13
 cases v4
 · obtain rfl : v = false := by rw [HV.out]; unfold Sb.Pt.valid; rw [← H5.out]; simp
   replace h4 : (r4 == 2) = true := h4
   go_wp2_with fail
   go_ret
   exact ⟨rfl, U0.out.push _⟩
 replace h4 : (r4 == 2) = false := h4
 have HV2 : Hid (v = decide p.near) := H9 (by rw [HV.out]; exact HR.out H1.out H2.out H3.out H5.out)
 obtain ⟨x28, x29, x30⟩ := PB0.out.tk
 have x31 := PB0.out.cell 31 _ rfl
 have hlt := Blk.lt PB0.out
 go_upto_region 7 with fail
 by_cases t0 : 0 ≤ p.tk.high
 rotate_left
 · obtain rfl : v = false := by rw [HV2.out, decide_eq_false_iff_not]; unfold Sb.Pt.near; omega
   have d0 : decide (0 ≤ p.tk.high) = false := decide_eq_false t0
   replace t0 := Int.not_le.1 t0
   go_wp2_with fail
   go_ret
   exact ⟨rfl, (U0.out.push _).push _⟩
 by_cases t1 : p.tk.high ≤ 140737488355328
 rotate_left
 · obtain rfl : v = false := by rw [HV2.out, decide_eq_false_iff_not]; unfold Sb.Pt.near; omega
   have d1 : decide (p.tk.high ≤ 140737488355328) = false := decide_eq_false t1
   replace t1 := Int.not_le.1 t1
   go_wp2_with fail
   go_ret
   exact ⟨rfl, (U0.out.push _).push _⟩
 by_cases t2 : -1 ≤ p.tk.jump
 rotate_left
 · obtain rfl : v = false := by rw [HV2.out, decide_eq_false_iff_not]; unfold Sb.Pt.near; omega
   have d2 : decide (-1 ≤ p.tk.jump) = false := decide_eq_false t2
   replace t2 := Int.not_le.1 t2
   go_wp2_with fail
   go_ret
   exact ⟨rfl, (U0.out.push _).push _⟩
 by_cases t3 : p.tk.jump ≤ 65535
 rotate_left
 · obtain rfl : v = false := by rw [HV2.out, decide_eq_false_iff_not]; unfold Sb.Pt.near; omega
   have d3 : decide (p.tk.jump ≤ 65535) = false := decide_eq_false t3
   replace t3 := Int.not_le.1 t3
   go_wp2_with fail
   go_ret
   exact ⟨rfl, (U0.out.push _).push _⟩
 by_cases t4 : -140737488355328 ≤ p.ht
 rotate_left
 · obtain rfl : v = false := by rw [HV2.out, decide_eq_false_iff_not]; unfold Sb.Pt.near; omega
   have d4 : decide (-140737488355328 ≤ p.ht) = false := decide_eq_false t4
   replace t4 := Int.not_le.1 t4
   go_wp2_with fail
   go_ret
   exact ⟨rfl, (U0.out.push _).push _⟩
 by_cases t5 : p.ht ≤ 140737488355328
 rotate_left
 · obtain rfl : v = false := by rw [HV2.out, decide_eq_false_iff_not]; unfold Sb.Pt.near; omega
   have d5 : decide (p.ht ≤ 140737488355328) = false := decide_eq_false t5
   replace t5 := Int.not_le.1 t5
   go_wp2_with fail
   go_ret
   exact ⟨rfl, (U0.out.push _).push _⟩
 obtain rfl : v = true := by rw [HV2.out, decide_eq_true_iff]; unfold Sb.Pt.near; omega
 go_wp2_with fail
 go_ret
 exact ⟨rfl, (U0.out.push _).push _⟩
end Go.Proofs.YtahbecinkciahaaGreat
namespace Go.Proofs.YtahbecinkciahaaGreat
open Go.RowKit
theorem zon (w : World) :
 Calls Tryz.prog 161 #[.int .u8 1] w fun e w' => e = .returned (.tuple #[.iface 222 (.agg #[]), .bool true]) ∧ w = w' := by
 go_enter Tryz.func161, Tryz.ntmps161
 go_wp2
 go_ret2
 exact ⟨rfl, rfl⟩
theorem zrb (w : World) :
 Calls Tryz.prog 161 #[.int .u8 2] w fun e w' => e = .returned (.tuple #[.iface 223 (.agg #[]), .bool true]) ∧ w = w' := by
 go_enter Tryz.func161, Tryz.ntmps161
 go_wp2
 go_ret2
 exact ⟨rfl, rfl⟩
theorem zku : (Tryz.prog.info? 5).map (fun i => (i.zero, i.size, i.bytes)) = some (some (.int .u8 0), 1, 1) := by kernel_rfl
theorem zoo : (Tryz.prog.info? 93).map (fun i => (i.zero, i.size, i.bytes)) = some (some (.int .i16 0), 1, 2) := by kernel_rfl
theorem ztw (x : Int) (w : World) (h0 : -32768 ≤ x) (h1 : x ≤ 32767) :
 Calls Tryz.prog 182 #[.agg #[], .int .i16 x] w fun e w' => e = .returned (.int .u8 (Cmp.muZ x)) ∧ w.alloc (.cells #[] 222) = w' := by
 skip
 go_enter Tryz.func182, Tryz.ntmps182
 go_wp2_with (go_at_call 184; refine (ztl _ _ (by omega) (by omega)).mono ?_; rintro e w' ⟨rfl, rfl⟩)
 go_ret
 exact ⟨rfl, rfl⟩
theorem zml (w : World) : (nilAhead 340 222 (.agg #[]) "dialtone/compand.code").run Tryz.prog w = .ok (some false) w := by kernel_rfl
theorem zmm (w : World) : (method 340 222 (.agg #[]) "dialtone/compand.code").run Tryz.prog w = .ok (182, .agg #[]) w := by kernel_rfl
theorem zqs (x : Int) (w : World) (h0 : 0 ≤ x) (h1 : x ≤ 255) :
 Calls Tryz.prog 183 #[.agg #[], .int .u8 x] w fun e w' => e = .returned (.int .i16 (Cmp.fromMuZ x)) ∧ w.alloc (.cells #[] 222) = w' := by
 obtain ⟨n, rfl⟩ := Int.eq_ofNat_of_zero_le h0
 go_enter Tryz.func183, Tryz.ntmps183
 go_wp2_with (go_at_call 185; refine (zlw _ _ (by omega)).mono ?_; rintro e w' ⟨rfl, rfl⟩)
 go_ret
 exact ⟨rfl, rfl⟩
theorem zid (w : World) : (nilAhead 340 222 (.agg #[]) "dialtone/compand.sample").run Tryz.prog w = .ok (some false) w := by kernel_rfl
theorem zie (w : World) : (method 340 222 (.agg #[]) "dialtone/compand.sample").run Tryz.prog w = .ok (183, .agg #[]) w := by kernel_rfl
theorem zub (x : Int) (w : World) (h0 : -32768 ≤ x) (h1 : x ≤ 32767) :
 Calls Tryz.prog 187 #[.agg #[], .int .i16 x] w fun e w' => e = .returned (.int .u8 (Cmp.aZ x)) ∧ w.alloc (.cells #[] 223) = w' := by
 skip
 go_enter Tryz.func187, Tryz.ntmps187
 go_wp2_with (go_at_call 189; refine (ztz _ _ (by omega) (by omega)).mono ?_; rintro e w' ⟨rfl, rfl⟩)
 go_ret
 exact ⟨rfl, rfl⟩
theorem zop (w : World) : (nilAhead 340 223 (.agg #[]) "dialtone/compand.code").run Tryz.prog w = .ok (some false) w := by kernel_rfl
theorem zoq (w : World) : (method 340 223 (.agg #[]) "dialtone/compand.code").run Tryz.prog w = .ok (187, .agg #[]) w := by kernel_rfl
theorem zsn (x : Int) (w : World) (h0 : 0 ≤ x) (h1 : x ≤ 255) :
 Calls Tryz.prog 188 #[.agg #[], .int .u8 x] w fun e w' => e = .returned (.int .i16 (Cmp.fromAZ x)) ∧ w.alloc (.cells #[] 223) = w' := by
 obtain ⟨n, rfl⟩ := Int.eq_ofNat_of_zero_le h0
 go_enter Tryz.func188, Tryz.ntmps188
 go_wp2_with (go_at_call 190; refine (znw _ _ (by omega)).mono ?_; rintro e w' ⟨rfl, rfl⟩)
 go_ret
 exact ⟨rfl, rfl⟩
theorem zjs (w : World) : (nilAhead 340 223 (.agg #[]) "dialtone/compand.sample").run Tryz.prog w = .ok (some false) w := by kernel_rfl
theorem zjt (w : World) : (method 340 223 (.agg #[]) "dialtone/compand.sample").run Tryz.prog w = .ok (188, .agg #[]) w := by kernel_rfl
end Go.Proofs.YtahbecinkciahaaGreat
namespace Go.Proofs.YtahbecinkciahaaGreat
attribute [local go_sem ↓] zac zad
attribute [local go_sem] zab zag
open Go.RowKit
theorem Ev.u64_in (x : Int) (h0 : 0 ≤ x) (h1 : x ≤ 9223372036854775807) : IntKind.u64.wrap x = x := by
 simp [IntKind.wrap, IntKind.bits, IntKind.signed]
 omega
theorem Ev.i64_in' (x : Int) (h0 : -4611686018427387904 ≤ x) (h1 : x ≤ 4611686018427387904) : IntKind.i64.wrap x = x := by
 simp [IntKind.wrap, IntKind.bits, IntKind.signed]
 omega
theorem zha {k : IntKind} {a b : Int} (h : a = b) : Ending.returned (.int k a) = .returned (.int k b) := by rw [h]
section
variable (A : Option Addr) (zs : List Int) (cap : Nat) (w : World)
theorem Ev.sum_step (zs : List Int) (hz : Within (-32768) 32767 zs) (k : Nat) (h : k < zs.length) : (Ev.sumSq (zs.take (k + 1)) : Int) = (Ev.sumSq (zs.take k) : Int) + zs.getD k 0 * zs.getD k 0 ∧ 0 ≤ zs.getD k 0 * zs.getD k 0 ∧ zs.getD k 0 * zs.getD k 0 ≤ 1073741824 ∧ (Ev.sumSq (zs.take k) : Int) ≤ k * 1073741824 := by
 obtain ⟨z0, z1⟩ := hz.at h
 have hs := Ev.sq_bd _ z0 z1
 have h2 := Ev.sumSq_take zs k h
 have h3 := Ev.sumSq_bd (zs.take k) (hz.take k)
 have h4 : (zs.take k).length = k := by simp; omega
 rw [h4] at h3
 omega
theorem zif (hA : IntsAt w w.heap.size .i16 A zs) (hz : Within (-32768) 32767 zs) (hl : zs.length ≤ 8000) :
 Calls Tryz.prog 75 #[.slice A zs.length cap] w fun e w' => e = .returned (.int .u8 (Ev.lev zs)) ∧ w = w' := by
 by_cases h0 : zs.length = 0
 · obtain rfl := List.eq_nil_of_length_eq_zero h0
   clear h0
   go_enter Tryz.func75, Tryz.ntmps75
   go_wp2
   go_ret
   exact ⟨rfl, rfl⟩
 · obtain ⟨b, off, rfl, hb, qc⟩ := hA (by omega)
   have hmean := Ev.mean_bd zs hz
   have hbd := Ev.sumSq_bd zs hz
   have hL : Ev.lev zs = if Ev.sumSq zs / zs.length = 0 then 127 else 3 * (30 - (Nat.log2 (Ev.sumSq zs / zs.length) : Int)) := by unfold Ev.lev; rw [if_neg h0]
   have HL := H9 hL
   have HZ := H9 hz
   have h0' : ((zs.length : Int) == 0) = false := by simpa using h0
   have h1 : 1 ≤ (zs.length : Int) := by omega
   clear hL hz hA h0
   go_enter Tryz.func75, Tryz.ntmps75
   go_wp2
   go_loop [3, 12] (fun s i => ∃ k : Nat, k ≤ zs.length ∧ i = .int .i64 k ∧ s = .int .u64 (Ev.sumSq (zs.take k))) (fun _ i => zs.length - (intOf i).toNat)
   case atStart => exact ⟨0, Nat.zero_le _, rfl, rfl⟩
   case round =>
    obtain ⟨k, hk, rfl, rfl⟩ := hrel
    by_cases hlt : k < zs.length
    · have hc := qc k hlt
      obtain ⟨s1, s2, s3, s4⟩ := Ev.sum_step zs HZ.out k hlt
      obtain ⟨z0, z1⟩ := HZ.out.at hlt
      have HS := H9 s1
      have s5 : (0 : Int) ≤ (Ev.sumSq (zs.take k) : Int) := by omega
      clear qc s1
      generalize zs.getD k 0 = z at *
      generalize (Ev.sumSq (zs.take k) : Int) = S at *
      have hi0 : (0 : Int) ≤ (k : Int) := by omega
      have hi1 : (k : Int) < (zs.length : Int) := by omega
      go_wp2
      go_round
      case rel => exact ⟨k + 1, by omega, by go_num, by rw [HS.out]⟩
      case measure => simp [intOf]; omega
    · obtain rfl : k = zs.length := by omega
      rw [List.take_length] at *
      have hq : (Ev.sumSq zs : Int) / (zs.length : Int) = ((Ev.sumSq zs / zs.length : Nat) : Int) := (Int.natCast_ediv _ _).symm
      have hq2 : (Ev.sumSq zs : Int).tdiv (zs.length : Int) = ((Ev.sumSq zs / zs.length : Nat) : Int) := by rw [Int.tdiv_eq_ediv_of_nonneg (by omega), hq]
      have HQ := H9 hq2
      clear hq2
      have hS : (Ev.sumSq zs : Int) ≤ 8589934592000 := by omega
      clear hq qc hbd
      obtain ⟨P, hP⟩ : ∃ P, P = Ev.sumSq zs / zs.length := ⟨_, rfl⟩
      rw [← hP] at HL HQ hmean
      clear hP
      by_cases hp : P = 0
      · subst hp
        have hq := HQ.out
        have hw := Ev.u64_in ((0 : Nat) : Int) (by omega) (by omega)
        have hlv := HL.out
        rw [if_pos rfl] at hlv
        have HLV := H9 hlv
        clear hlv
        generalize (Ev.sumSq zs : Int) = S at *
        go_wp2
        go_ret
        exact ⟨zha HLV.out.symm, rfl⟩
      · have hlv := HL.out
        rw [if_neg hp] at hlv
        have hb2 := Ev.log2_bd P hmean hp
        have hbl : (Lib.bitLen ((P : Nat) : Int).toNat : Int) = (Nat.log2 P : Int) + 1 := by
         rw [Int.toNat_natCast, Ev.bitLen_eq P (by omega), if_neg hp]; simp
        have HLV := H9 hlv
        have HBL := H9 hbl
        have hq := HQ.out
        have hw := Ev.u64_in (P : Int) (by omega) (by omega)
        clear hlv hbl
        generalize Nat.log2 P = L at *
        generalize (Ev.sumSq zs : Int) = S at *
        have hp' : ((P : Int) == 0) = false := by simpa using hp
        have k1 := H9 fun W => Tryz.bits_Len64 (P : Int) W (by omega) (by omega)
        rw [HBL.out] at k1
        clear HBL
        go_wp2_with (go_at_call 129; refine (k1.out _).mono ?_; rintro e w1 ⟨rfl, rfl⟩)
        go_ret
        exact ⟨zha (by rw [HLV.out]; omega), rfl⟩
theorem Ev.log2_half (q : Nat) (h : 2 ≤ q) : Nat.log2 q = Nat.log2 (q / 2) + 1 := by rw [Nat.log2_def q, if_pos h]
theorem Ev.log2_one (q : Nat) (h : 1 ≤ q) (h2 : q < 2) : Nat.log2 q = 0 := by
 have : q = 1 := by omega
 subst this; rfl
theorem zfz (hA : IntsAt w w.heap.size .i16 A zs) (hz : Within (-32768) 32767 zs) (hl : zs.length ≤ 8000) :
 Calls Tryz.prog 80 #[.slice A zs.length cap] w fun e w' => e = .returned (.int .u8 (Ev.lev zs)) ∧ Below w.heap.size w w' := by
 by_cases h0 : zs.length = 0
 · obtain rfl := List.eq_nil_of_length_eq_zero h0
   clear h0
   go_enter Tryz.func80, Tryz.ntmps80
   go_wp2
   go_ret
   exact ⟨rfl, Below.refl _ _⟩
 · obtain ⟨b, off, rfl, hb, qc⟩ := hA (by omega)
   have hmean := Ev.mean_bd zs hz
   have hbd := Ev.sumSq_bd zs hz
   have hL : Ev.lev zs = if Ev.sumSq zs / zs.length = 0 then 127 else 3 * (30 - (Nat.log2 (Ev.sumSq zs / zs.length) : Int)) := by unfold Ev.lev; rw [if_neg h0]
   have HL := H9 hL
   have HZ := H9 hz
   have h0' : ((zs.length : Int) == 0) = false := by simpa using h0
   have h1 : 1 ≤ (zs.length : Int) := by omega
   clear hL hz hA h0
   go_enter Tryz.func80, Tryz.ntmps80
   go_wp2
   go_loopw [3, 4] (fun s i wr => ∃ k : Nat, k ≤ zs.length ∧ i = .int .i64 k ∧ s = .int .i64 (Ev.sumSq (zs.take k)) ∧ Below w.heap.size w wr) (fun _ i _ => zs.length - (intOf i).toNat)
   case atStart => exact ⟨0, Nat.zero_le _, rfl, rfl, Below.refl _ _⟩
   case round =>
    obtain ⟨k, hk, rfl, rfl, hbw⟩ := hrel
    by_cases hlt : k < zs.length
    · have hc : wr.cell? ⟨b, off + k, none⟩ = some (.int .i16 (zs.getD k 0)) := (hbw.cell (p := ⟨b, off + k, none⟩) hb).trans (qc k hlt)
      obtain ⟨s1, s2, s3, s4⟩ := Ev.sum_step zs HZ.out k hlt
      obtain ⟨z0, z1⟩ := HZ.out.at hlt
      have HS := H9 s1
      have s5 : (0 : Int) ≤ (Ev.sumSq (zs.take k) : Int) := by omega
      clear qc s1
      generalize zs.getD k 0 = z at *
      generalize (Ev.sumSq (zs.take k) : Int) = S at *
      have hi0 : (0 : Int) ≤ (k : Int) := by omega
      have hi1 : (k : Int) < (zs.length : Int) := by omega
      have e1 : IntKind.i64.wrap z = z := Ev.i64_in' z (by omega) (by omega)
      have e2 : IntKind.i64.wrap (z * z) = z * z := Ev.i64_in' _ (by omega) (by omega)
      have e3 : IntKind.i64.wrap (S + z * z) = S + z * z := Ev.i64_in' _ (by omega) (by omega)
      go_wp2
      go_quiet (fail)
      go_wp2
      go_roundw
      case rel => exact ⟨k + 1, by omega, by go_num, by rw [HS.out], Bel.drewN hbw _⟩
      case measure => simp [intOf]; omega
    · obtain rfl : k = zs.length := by omega
      rw [List.take_length] at *
      have hq : (Ev.sumSq zs : Int) / (zs.length : Int) = ((Ev.sumSq zs / zs.length : Nat) : Int) := (Int.natCast_ediv _ _).symm
      have hq2 : (Ev.sumSq zs : Int).tdiv (zs.length : Int) = ((Ev.sumSq zs / zs.length : Nat) : Int) := by rw [Int.tdiv_eq_ediv_of_nonneg (by omega), hq]
      have HQ := H9 hq2
      have hS : (Ev.sumSq zs : Int) ≤ 8589934592000 := by omega
      clear hq hq2 qc hbd
      obtain ⟨P, hP⟩ : ∃ P, P = Ev.sumSq zs / zs.length := ⟨_, rfl⟩
      rw [← hP] at HL HQ hmean
      clear hP
      have HB := H9 hbw
      clear hbw
      by_cases hp : P = 0
      · subst hp
        have hq := HQ.out
        have hw := Ev.i64_in' ((0 : Nat) : Int) (by omega) (by omega)
        have hlv := HL.out
        rw [if_pos rfl] at hlv
        have HLV := H9 hlv
        clear hlv
        generalize (Ev.sumSq zs : Int) = S at *
        go_wp2
        go_ret
        exact ⟨zha HLV.out.symm, HB.out⟩
      · have hlv := HL.out
        rw [if_neg hp] at hlv
        have hb2 := Ev.log2_bd P hmean hp
        have HLV := H9 hlv
        have hq := HQ.out
        have hw := Ev.i64_in' (P : Int) (by omega) (by omega)
        clear hlv
        generalize hLP : Nat.log2 P = L at *
        have HLP := H9 hLP
        clear hLP
        generalize (Ev.sumSq zs : Int) = S at *
        have hp' : ((P : Int) == 0) = false := by simpa using hp
        have hp1 : 1 ≤ P := by omega
        go_wp2
        go_loop [3, 5] (fun s i => ∃ q j : Nat, 1 ≤ q ∧ q ≤ P ∧ Nat.log2 q + j = L ∧ s = .int .i64 q ∧ i = .int .i64 j) (fun s _ => (intOf s).toNat)
        case atStart => exact ⟨P, 0, hp1, Nat.le_refl _, HLP.out, rfl, rfl⟩
        case round =>
         obtain ⟨q, j, q1, q2, q3, rfl, rfl⟩ := hrel
         by_cases hq2 : 2 ≤ q
         · have hh := Ev.log2_half q hq2
           have Q3 := H9 q3
           have HH := H9 hh
           have hj : j ≤ L := by omega
           have hq2' : (2 : Int) ≤ (q : Int) := by omega
           clear q3 hh
           go_wp2
           go_round
           case rel =>
            refine ⟨q / 2, j + 1, by omega, by omega, ?_, by go_num, by go_num⟩
            have h1 := Q3.out
            have h2 := HH.out
            omega
           case measure => simp [intOf]; omega
         · have hh := Ev.log2_one q q1 (by omega)
           have hj : j = L := by omega
           have hq2' : (q : Int) < 2 := by omega
           have HJ := H9 hj
           have hjl : j ≤ L := by omega
           clear q3 hh hj
           go_wp2
           go_ret
           exact ⟨zha (by rw [HLV.out, ← HJ.out]), HB.out⟩
end
end Go.Proofs.YtahbecinkciahaaGreat
namespace Go.Proofs.YtahbecinkciahaaGreat
attribute [local go_sem] zab zag
open Go.RowKit
theorem Ev.amp_bd : ∀ k, 0 ≤ Ev.amp k ∧ Ev.amp k ≤ 32767
 | 0 => by decide
 | k + 1 => by
   have := Ev.amp_bd k
   unfold Ev.amp
   omega
theorem Ev.amp_pow : ∀ k : Fin 43, (32767 : Int) / 2 ^ k.val = Ev.amp k.val := by decide +kernel
theorem Ev.info_i16 : (Tryz.prog.info? 93).map (fun i => (i.zero, i.size, i.bytes)) = some (some (.int .i16 0), 1, 2) := by kernel_rfl
theorem Ev.seed_bd (s : Int) (h0 : 0 ≤ s) (h1 : s ≤ 4294967295) : ∀ k, 0 ≤ Ev.seed s k ∧ Ev.seed s k ≤ 4294967295
 | 0 => ⟨h0, h1⟩
 | k + 1 => by unfold Ev.seed; omega
theorem Ev.nsamp_bd (a s : Int) (ha : 0 ≤ a) (k : Nat) : -a ≤ Ev.nsamp a s k ∧ Ev.nsamp a s k ≤ a := by
 unfold Ev.nsamp
 have h1 := Int.emod_nonneg (Ev.seed s (k + 1) / 65536) (b := 2 * a + 1) (by omega)
 have h2 := Int.emod_lt_of_pos (Ev.seed s (k + 1) / 65536) (b := 2 * a + 1) (by omega)
 omega
section
variable (l s n : Int) (w : World)
def NoiseR (a s : Int) (m : Nat) (w : World) (e : Ending) (w' : World) : Prop :=
 ∃ (A' : Option Addr) (c' : Nat), e = .returned (.tuple #[.slice A' m c', .int .u32 (Ev.seed s m), .int .u8 0]) ∧ IntsAt w' w'.heap.size .i16 A' ((List.range m).map fun k => Ev.nsamp a s k) ∧ Below w.heap.size w w'
end
end Go.Proofs.YtahbecinkciahaaGreat
namespace Go.Proofs.YtahbecinkciahaaGreat
attribute [local go_sem ↓] zac zad
attribute [local go_sem] zab zag
open Go.RowKit
theorem zhb : Dlt.szA.size = 89 := by simp [Dlt.szA, Dlt.szL]
theorem zhc : (Tryz.prog.info? 198).map (·.size) = some Dlt.szA.size := by rw [zhb]; exact zmt
theorem zju : Dlt.szA.all (·.oneCell') = true := all_oneCell_toArray Dlt.szL_one
def laidW (w : World) : World := (w.alloc (.cells Dlt.zeroA 198)).setCells w.heap.size 0 Dlt.szA.toList
theorem zdc (w : World) : (w.alloc (.cells Dlt.zeroA 198)).there w.heap.size 0 Dlt.szA.size := by
 rw [zhb]; exact zhe (zij w)
theorem zbk (w : World) : Below w.heap.size w (laidW w) := zca (Nat.le_refl _) _ _ _ ((Below.refl _ _).alloc (Nat.le_refl _) _)
theorem zfj (w : World) : w.heap.size < (laidW w).heap.size := by
 have h := (zca (Nat.le_refl w.heap.size) Dlt.szA.toList 0 (w.alloc (.cells Dlt.zeroA 198)) (Below.refl _ (w.alloc (.cells Dlt.zeroA 198)))).size
 simp at h
 show w.heap.size < (World.setCells _ _ _ _).heap.size
 omega
theorem zed (w : World) : StepsAt (laidW w) w.heap.size := by
 refine ⟨zfj w, fun n hn => ?_⟩
 have h := World.rangeAt_setCells_same (w.alloc (.cells Dlt.zeroA 198)) w.heap.size 0 Dlt.szL (by rw [Dlt.szL_len, ← zhb]; exact zdc w)
 have := h n _ (Dlt.szL_at n hn)
 rw [Nat.zero_add] at this
 exact this
theorem zrc : (Tryz.prog.info? 5).map (fun i => (i.zero, i.size, i.bytes)) = some (some (.int .u8 0), 1, 1) := by kernel_rfl
theorem zor : (Tryz.prog.info? 93).map (fun i => (i.zero, i.size, i.bytes)) = some (some (.int .i16 0), 1, 2) := by kernel_rfl
theorem zbb (n : Nat) (w : World) (h : n ≤ 8000) : Calls Tryz.prog 140 #[.int .i64 n] w fun e w' => e = .returned (.int .i64 ((4 + (n + 1) / 2 : Nat) : Int)) ∧ w = w' := by
 go_enter Tryz.func140, Tryz.ntmps140
 go_wp2
 go_ret
 exact ⟨zdh (by omega), rfl⟩
theorem StepsAt.far {w : World} {b : Nat} (h : StepsAt w b) {p : Addr} (hp : b ≠ p.block) (u : Value) : StepsAt (w.setCell p u) b :=
 ⟨by simpa [World.setCell] using h.1, fun n hn => (World.cell?_setCell_other w p ⟨b, n, none⟩ u (fun e => hp (by rw [e]))).trans (h.2 n hn)⟩
theorem zga {w wo : World} {B gt N k : Nat} {t t5 : TypeId} {s : Int × Int} {zs : List Int} {V I c : Int} (hg : B + 1 + 1 + 1 + 1 ≤ gt) (h0 : Blk w B t #[.int .i64 V, .int .i64 I]) (h1 : Blk w (B + 1) t #[.int .i64 0, .int .i64 0])
 (hr : w.rowIs (B + 1 + 1 + 1) t5 N (fun j => .int .u8 (Dlt.packAt s zs k j))) (hs : StepsAt w gt) (hb : Below B wo w) (X : Int) (hX : X = Dlt.part s zs (k + 1) (k / 2)) (hst : Dlt.stAt s zs (k + 1) = (Dlt.nextV V I c, Dlt.nextI I c)) :
 Blk (((w.setCell ⟨B, 0, none⟩ (.int .i64 (Dlt.nextV V I c))).setCell ⟨B, 1, none⟩ (.int .i64 (Dlt.nextI I c))).setCell ⟨B + 1 + 1 + 1, 4 + k / 2, none⟩ (.int .u8 X)) B t #[.int .i64 (Dlt.stAt s zs (k + 1)).1, .int .i64 (Dlt.stAt s zs (k + 1)).2] ∧
 Blk (((w.setCell ⟨B, 0, none⟩ (.int .i64 (Dlt.nextV V I c))).setCell ⟨B, 1, none⟩ (.int .i64 (Dlt.nextI I c))).setCell ⟨B + 1 + 1 + 1, 4 + k / 2, none⟩ (.int .u8 X)) (B + 1) t #[.int .i64 0, .int .i64 0] ∧
 (((w.setCell ⟨B, 0, none⟩ (.int .i64 (Dlt.nextV V I c))).setCell ⟨B, 1, none⟩ (.int .i64 (Dlt.nextI I c))).setCell ⟨B + 1 + 1 + 1, 4 + k / 2, none⟩ (.int .u8 X)).rowIs (B + 1 + 1 + 1) t5 N (fun j => .int .u8 (Dlt.packAt s zs (k + 1) j)) ∧
 StepsAt (((w.setCell ⟨B, 0, none⟩ (.int .i64 (Dlt.nextV V I c))).setCell ⟨B, 1, none⟩ (.int .i64 (Dlt.nextI I c))).setCell ⟨B + 1 + 1 + 1, 4 + k / 2, none⟩ (.int .u8 X)) gt ∧
 Below B wo (((w.setCell ⟨B, 0, none⟩ (.int .i64 (Dlt.nextV V I c))).setCell ⟨B, 1, none⟩ (.int .i64 (Dlt.nextI I c))).setCell ⟨B + 1 + 1 + 1, 4 + k / 2, none⟩ (.int .u8 X)) := by
 refine ⟨?_, ?_, ?_, ?_, ?_⟩
 · rw [hst]
   exact ((h0.set_ 0 _).set_ 1 _).far (by simp; omega) _
 · exact ((h1.far (by simp) _).far (by simp) _).far (by simp) _
 · refine (((hr.setOther (by simp; omega) _).setOther (by simp; omega) _).set (4 + k / 2) _).congr fun j _ => ?_
   rw [Dlt.packAt_set, hX]
   split <;> rfl
 · exact ((hs.far (by simp; omega) _).far (by simp; omega) _).far (by simp; omega) _
 · exact ((hb.setCell (by simp) _).setCell (by simp) _).setCell (by simp; omega) _
end Go.Proofs.YtahbecinkciahaaGreat
namespace Go.Proofs.YtahbecinkciahaaGreat
attribute [local go_sem] zab zag
open Go.RowKit
def Dlt.okB (bs : List Int) (n : Nat) : Prop := bs.length = 4 + (n + 1) / 2 ∧ bs.getD 2 0 ≤ 88 ∧ bs.getD 3 0 = 0 ∧ (n % 2 = 1 → bs.getD (bs.length - 1) 0 % 16 = 0)
instance (bs : List Int) (n : Nat) : Decidable (Dlt.okB bs n) := by unfold Dlt.okB; infer_instance
theorem or_bytes (x0 x1 : Int) (a0 : 0 ≤ x0) (b0 : x0 ≤ 255) (a1 : 0 ≤ x1) (b1 : x1 ≤ 255) : bits BinOp.or IntKind.u16 (x0 * 256) x1 = 256 * x0 + x1 := by
 obtain ⟨n0, rfl⟩ := Int.eq_ofNat_of_zero_le a0
 obtain ⟨n1, rfl⟩ := Int.eq_ofNat_of_zero_le a1
 have e : ((n0 : Int) * 256) = ((n0 * 256 : Nat) : Int) := by omega
 have h : n0 * 256 ||| n1 = n0 * 256 + n1 := by
  rw [show (256 : Nat) = 2 ^ 8 from rfl, ← Nat.shiftLeft_eq, Nat.shiftLeft_add_eq_or_of_lt (by omega)]
 rw [e, u16_or_nat (n0 * 256) n1 (by omega) (by omega), h]
 omega
theorem zjv (n : Int) : IntKind.i16.wrap n = (n + 32768) % 65536 - 32768 := by
 simp [IntKind.wrap, IntKind.bits, IntKind.signed]
 try omega
theorem zig (x0 x1 : Int) (a0 : 0 ≤ x0) (b0 : x0 ≤ 255) (a1 : 0 ≤ x1) (b1 : x1 ≤ 255) : wrap64 (IntKind.i16.wrap (bits BinOp.or IntKind.u16 (x0 * 256) x1)) = (256 * x0 + x1 + 32768) % 65536 - 32768 := by
 rw [or_bytes x0 x1 a0 b0 a1 b1, zjv, IntWalk.wrap64_in _ ⟨by omega, by omega⟩]
theorem Dlt.headS_valid (bs : List Int) (n : Nat) (h : Dlt.okB bs n) (hz : Within 0 255 bs) : Dlt.valid (Dlt.headS bs).1 (Dlt.headS bs).2 = true := by
 have h2 := (hz.at (i := 2) (by have := h.1; omega)).1
 have h3 := h.2.1
 unfold Dlt.headS
 generalize 256 * bs.getD 0 0 + bs.getD 1 0 = y
 generalize bs.getD 2 0 = z at *
 have e1 : -32768 ≤ (y + 32768) % 65536 - 32768 := by omega
 have e2 : (y + 32768) % 65536 - 32768 ≤ 32767 := by omega
 simp [Dlt.valid, e1, e2, h2, h3]
theorem zih (n : Int) (A : Option Addr) (m cap : Nat) (w : World) (hn : n < 0 ∨ 8000 < n) :
 Calls Tryz.prog 94 #[.slice A m cap, .int .i64 n] w fun e w' => e = .returned (.tuple #[.slice none 0 0, .agg #[.int .i64 0, .int .i64 0], .int .u8 3]) ∧ Below w.heap.size w w' := by
 rcases hn with hn | hn
 all_goals
  go_enter Tryz.func94, Tryz.ntmps94
  go_wp2_with fail
  refine bodyPost_ret (v := .tuple #[.slice none 0 0, .agg #[.int .i64 0, .int .i64 0], .int .u8 3]) (by simp [results, Tryz.results94, go_sem]) rfl ⟨rfl, ?_⟩
  repeat (first | exact Below.refl _ _ | refine Below.setCell ?_ (by simp) _ | refine Below.alloc ?_ (by simp; try omega) _)
theorem zii (n : Nat) (A : Option Addr) (m cap : Nat) (w : World) (hn : n ≤ 8000) (hm : m < 4 + (n + 1) / 2) :
 Calls Tryz.prog 94 #[.slice A m cap, .int .i64 n] w fun e w' => e = .returned (.tuple #[.slice none 0 0, .agg #[.int .i64 0, .int .i64 0], .int .u8 6]) ∧ Below w.heap.size w w' := by
 go_enter Tryz.func94, Tryz.ntmps94
 go_wp2_with fail
 refine (zbb n _ hn).mono ?_
 rintro e w' ⟨rfl, rfl⟩
 generalize hs : 4 + (n + 1) / 2 = N at *
 go_wp2_with fail
 refine bodyPost_ret (v := .tuple #[.slice none 0 0, .agg #[.int .i64 0, .int .i64 0], .int .u8 6]) (by simp [results, Tryz.results94, go_sem]) rfl ⟨rfl, ?_⟩
 repeat (first | exact Below.refl _ _ | refine Below.setCell ?_ (by simp) _ | refine Below.alloc ?_ (by simp; try omega) _)
theorem zhd (n : Nat) (A : Option Addr) (bs : List Int) (cap : Nat) (w : World) (hn : n ≤ 8000) (hA : IntsAt w w.heap.size .u8 A bs) (hz : Within 0 255 bs) (hm : 4 + (n + 1) / 2 ≤ bs.length) (hno : ¬Dlt.okB bs n) (hmax : bs.length ≤ maxLen) :
 Calls Tryz.prog 94 #[.slice A bs.length cap, .int .i64 n] w fun e w' => e = .returned (.tuple #[.slice none 0 0, .agg #[.int .i64 0, .int .i64 0], .int .u8 5]) ∧ Below w.heap.size w w' := by
 obtain ⟨b, off, rfl, hbB, qc⟩ := hA (by omega)
 have c2 := qc 2 (by omega)
 have c3 := qc 3 (by omega)
 have cl := qc (bs.length - 1) (by omega)
 obtain ⟨l0, l1⟩ := hz.at (i := bs.length - 1) (by omega)
 obtain ⟨g0, g1⟩ := hz.at (i := 2) (by omega)
 obtain ⟨t0, t1⟩ := hz.at (i := 3) (by omega)
 have hb' : b ≠ w.heap.size := by omega
 unfold Dlt.okB at hno
 generalize bs.getD 2 0 = x2 at *
 generalize bs.getD 3 0 = x3 at *
 generalize bs.getD (bs.length - 1) 0 = xl at *
 clear hA hz qc
 generalize hM : bs.length = M at *
 unfold maxLen at hmax
 have hM4 : (4 : Int) ≤ (M : Int) := by omega
 have hM2 : (2 : Int) < (M : Int) := by omega
 have hM3 : (3 : Int) < (M : Int) := by omega
 have hl0 : (0 : Int) ≤ (M : Int) - 1 := by omega
 have hl1 : (M : Int) - 1 < (M : Int) := by omega
 have hl2 : ((M : Int) - 1).toNat = M - 1 := by omega
 have cc2 : (w.alloc (.cells #[.int .i64 0, .int .i64 0] 24)).cell? ⟨b, off + 2, none⟩ = some (.int .u8 x2) := (World.cell?_alloc_lt w _ _ hbB).trans c2
 have cc3 : (w.alloc (.cells #[.int .i64 0, .int .i64 0] 24)).cell? ⟨b, off + 3, none⟩ = some (.int .u8 x3) := (World.cell?_alloc_lt w _ _ hbB).trans c3
 have ccl : (w.alloc (.cells #[.int .i64 0, .int .i64 0] 24)).cell? ⟨b, off + (M - 1), none⟩ = some (.int .u8 xl) := (World.cell?_alloc_lt w _ _ hbB).trans cl
 clear c2 c3 cl
 generalize hs : 4 + (n + 1) / 2 = N at *
 have HS := H9 hs
 have h : N < M ∨ (M = N ∧ 88 < x2) ∨ (M = N ∧ x2 ≤ 88 ∧ x3 ≠ 0) ∨ (M = N ∧ x2 ≤ 88 ∧ x3 = 0 ∧ (n : Int) % 2 = 1 ∧ xl % 16 ≠ 0) := by omega
 clear hno hs
 rcases h with h | ⟨rfl, h⟩ | ⟨rfl, h2, h3⟩ | ⟨rfl, h2, rfl, h4, h5⟩
 all_goals try have h5b : (xl % 16 != 0) = true := bne_iff_ne.2 h5
 all_goals
  go_enter Tryz.func94, Tryz.ntmps94
  go_wp2_with fail
  refine (zbb n _ hn).mono ?_
  rintro e w' ⟨rfl, rfl⟩
  rw [HS.out]
  go_wp2_with fail
  refine (zbb n _ hn).mono ?_
  rintro e w' ⟨rfl, rfl⟩
  rw [HS.out]
  go_wp2_with fail
  refine bodyPost_ret (v := .tuple #[.slice none 0 0, .agg #[.int .i64 0, .int .i64 0], .int .u8 5]) (by simp [results, Tryz.results94, go_sem]) rfl ⟨rfl, ?_⟩
  repeat (first | exact Below.refl _ _ | refine Below.setCell ?_ (by simp) _ | refine Below.alloc ?_ (by simp; try omega) _)
theorem zei {w wo : World} {B gt n r k : Nat} {t t5 : TypeId} {s : Int × Int} {bs : List Int} {V I c : Int} (hg : B + 1 + 1 ≤ gt) (hgr : gt < r) (h0 : Blk w B t #[.int .i64 0, .int .i64 0]) (h1 : Blk w (B + 1) t #[.int .i64 V, .int .i64 I])
 (hr : w.rowIs r t5 n (fun j => .int .i16 (if j < k then (Dlt.dAt s bs (j + 1)).1 else 0))) (hs : StepsAt w gt) (hb : Below B wo w) (hst : Dlt.dAt s bs (k + 1) = (Dlt.nextV V I c, Dlt.nextI I c)) :
 Blk (((w.setCell ⟨B + 1, 0, none⟩ (.int .i64 (Dlt.nextV V I c))).setCell ⟨B + 1, 1, none⟩ (.int .i64 (Dlt.nextI I c))).setCell ⟨r, k, none⟩ (.int .i16 (Dlt.nextV V I c))) B t #[.int .i64 0, .int .i64 0] ∧
 Blk (((w.setCell ⟨B + 1, 0, none⟩ (.int .i64 (Dlt.nextV V I c))).setCell ⟨B + 1, 1, none⟩ (.int .i64 (Dlt.nextI I c))).setCell ⟨r, k, none⟩ (.int .i16 (Dlt.nextV V I c))) (B + 1) t #[.int .i64 (Dlt.dAt s bs (k + 1)).1, .int .i64 (Dlt.dAt s bs (k + 1)).2] ∧
 (((w.setCell ⟨B + 1, 0, none⟩ (.int .i64 (Dlt.nextV V I c))).setCell ⟨B + 1, 1, none⟩ (.int .i64 (Dlt.nextI I c))).setCell ⟨r, k, none⟩ (.int .i16 (Dlt.nextV V I c))).rowIs r t5 n (fun j => .int .i16 (if j < k + 1 then (Dlt.dAt s bs (j + 1)).1 else 0)) ∧
 StepsAt (((w.setCell ⟨B + 1, 0, none⟩ (.int .i64 (Dlt.nextV V I c))).setCell ⟨B + 1, 1, none⟩ (.int .i64 (Dlt.nextI I c))).setCell ⟨r, k, none⟩ (.int .i16 (Dlt.nextV V I c))) gt ∧
 Below B wo (((w.setCell ⟨B + 1, 0, none⟩ (.int .i64 (Dlt.nextV V I c))).setCell ⟨B + 1, 1, none⟩ (.int .i64 (Dlt.nextI I c))).setCell ⟨r, k, none⟩ (.int .i16 (Dlt.nextV V I c))) := by
 refine ⟨?_, ?_, ?_, ?_, ?_⟩
 · exact ((h0.far (by simp) _).far (by simp) _).far (by simp; omega) _
 · rw [hst]
   exact ((h1.set_ 0 _).set_ 1 _).far (by simp; omega) _
 · have h := zby (g := fun j => (Dlt.dAt s bs (j + 1)).1) ((hr.setOther (a := ⟨B + 1, 0, none⟩) (by simp; omega) (.int .i64 (Dlt.nextV V I c))).setOther (a := ⟨B + 1, 1, none⟩) (by simp; omega) (.int .i64 (Dlt.nextI I c)))
   simp only [hst] at h
   exact h
 · exact ((hs.far (by simp; omega) _).far (by simp; omega) _).far (by simp; omega) _
 · exact ((hb.setCell (by simp) _).setCell (by simp) _).setCell (by simp; omega) _
end Go.Proofs.YtahbecinkciahaaGreat

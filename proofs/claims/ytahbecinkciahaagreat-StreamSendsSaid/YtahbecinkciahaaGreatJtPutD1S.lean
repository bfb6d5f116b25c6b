/- Layer 30: Put of the program, one way. -/
import Derived.Test.YtahbecinkciahaaGreatSs9S
import Derived.Test.YtahbecinkciahaaGreatJtMeas2S
set_option linter.unusedVariables false
set_option linter.unusedSimpArgs false
set_option maxRecDepth 100000
set_option maxHeartbeats 12800000
namespace Go.Proofs.YtahbecinkciahaaGreat
attribute [local go_sem ↓] zac zad
attribute [local go_sem] zab zag
open Go.RowKit
theorem zlg (le mo nw : Int) (ze fi hi dn sp tr : Int) (A : Option Addr) (l : List TW) (n qc : Nat) (la tw pd : Int) (now : Int) (sq ti : Int) (mk : Bool) (ty : Int) (MA : Option Addr) (mn mc : Nat) (pl : List Int) (w : World) (hn : l.length = n) (hmn : pl.length = mn) (hl : n ≤ 100000) (hm9 : mn ≤ 100000) (hcap : n ≤ qc) (hcm : qc ≤ maxLen) (hA : Wts w w.heap.size A l) (hK : ∀ a ∈ l, I64 a.w.m.sq) (hMI : IntsAt w w.heap.size .u8 MA pl) (hr0 : Jb.chk ⟨le, mo, nw, true, ze, fi, hi, dn, sp, tr, l.map TW.w, la, tw, pd⟩ now (decide (Jb.Md.ok ⟨sq, ti, mk, ty, pl⟩)) = 0) (hany : ((Jb.run0 ⟨le, mo, nw, true, ze, fi, hi, dn, sp, tr, l.map TW.w, la, tw, pd⟩ now).q.any fun w => w.m.sq == sq) = false) (hls : (Jb.run0 ⟨le, mo, nw, true, ze, fi, hi, dn, sp, tr, l.map TW.w, la, tw, pd⟩ now).done < sq) (qf : 200 ≤ (Jb.run0 ⟨le, mo, nw, true, ze, fi, hi, dn, sp, tr, l.map TW.w, la, tw, pd⟩ now).q.length) : Calls Tryz.prog 46 #[.agg #[.int .i64 le, .int .i64 mo, .int .i64 nw, .bool true, .int .i64 ze, .int .i64 fi, .int .i64 hi, .int .i64 dn, .int .i64 sp, .int .i64 tr, .slice A n qc, .int .i64 la, .int .i64 tw, .int .i64 pd], .int .i64 now, .agg #[.int .i64 sq, .int .i64 ti, .bool mk, .int .u8 ty, .slice MA mn mc]] w (JPutW ⟨le, mo, nw, true, ze, fi, hi, dn, sp, tr, l.map TW.w, la, tw, pd⟩ now ⟨sq, ti, mk, ty, pl⟩ w) := by
 subst hn
 subst hmn
 obtain ⟨r, hr⟩ : ∃ r, r = Jb.chk ⟨le, mo, nw, true, ze, fi, hi, dn, sp, tr, l.map TW.w, la, tw, pd⟩ now (decide (Jb.Md.ok ⟨sq, ti, mk, ty, pl⟩)) := ⟨_, rfl⟩
 rw [← hr] at hr0
 subst hr0
 have HR := H9 hr
 have k1 := H9 fun (W : World) (hW : Bel w W) => zbi le mo nw true ze fi hi dn sp tr A l l.length qc la tw pd now sq ti mk ty MA pl.length mc W rfl hl ((hA.below hW).more hW.size) hK (decide (Jb.Md.ok ⟨sq, ti, mk, ty, pl⟩)) rfl 0 hr
 have U0 := H9 ((((Bel.refl w).push (.cells #[.int .i64 le, .int .i64 mo, .int .i64 nw, .bool true, .int .i64 ze, .int .i64 fi, .int .i64 hi, .int .i64 dn, .int .i64 sp, .int .i64 tr, .slice A l.length qc, .int .i64 la, .int .i64 tw, .int .i64 pd] 40)).push (.cells #[.int .i64 sq, .int .i64 ti, .bool mk, .int .u8 ty, .slice MA pl.length mc] 103)).push (.cells #[.int .i64 0, .int .i64 0, .int .i64 0, .bool false, .int .i64 0, .int .i64 0, .int .i64 0, .int .i64 0, .int .i64 0, .int .i64 0, .slice none 0 0, .int .i64 0, .int .i64 0, .int .i64 0] 40))
 have BS := H9 (((Blk.new w 40 #[.int .i64 le, .int .i64 mo, .int .i64 nw, .bool true, .int .i64 ze, .int .i64 fi, .int .i64 hi, .int .i64 dn, .int .i64 sp, .int .i64 tr, .slice A l.length qc, .int .i64 la, .int .i64 tw, .int .i64 pd]).push (.cells #[.int .i64 sq, .int .i64 ti, .bool mk, .int .u8 ty, .slice MA pl.length mc] 103)).push (.cells #[.int .i64 0, .int .i64 0, .int .i64 0, .bool false, .int .i64 0, .int .i64 0, .int .i64 0, .int .i64 0, .int .i64 0, .int .i64 0, .slice none 0 0, .int .i64 0, .int .i64 0, .int .i64 0] 40))
 have BM := H9 ((Blk.new1 w (.cells #[.int .i64 le, .int .i64 mo, .int .i64 nw, .bool true, .int .i64 ze, .int .i64 fi, .int .i64 hi, .int .i64 dn, .int .i64 sp, .int .i64 tr, .slice A l.length qc, .int .i64 la, .int .i64 tw, .int .i64 pd] 40) 103 #[.int .i64 sq, .int .i64 ti, .bool mk, .int .u8 ty, .slice MA pl.length mc]).push (.cells #[.int .i64 0, .int .i64 0, .int .i64 0, .bool false, .int .i64 0, .int .i64 0, .int .i64 0, .int .i64 0, .int .i64 0, .int .i64 0, .slice none 0 0, .int .i64 0, .int .i64 0, .int .i64 0] 40))
 have BR : Hid (Blk (((w.alloc (.cells #[.int .i64 le, .int .i64 mo, .int .i64 nw, .bool true, .int .i64 ze, .int .i64 fi, .int .i64 hi, .int .i64 dn, .int .i64 sp, .int .i64 tr, .slice A l.length qc, .int .i64 la, .int .i64 tw, .int .i64 pd] 40)).alloc (.cells #[.int .i64 sq, .int .i64 ti, .bool mk, .int .u8 ty, .slice MA pl.length mc] 103)).alloc (.cells #[.int .i64 0, .int .i64 0, .int .i64 0, .bool false, .int .i64 0, .int .i64 0, .int .i64 0, .int .i64 0, .int .i64 0, .int .i64 0, .slice none 0 0, .int .i64 0, .int .i64 0, .int .i64 0] 40)) (w.heap.size + 1 + 1) 40 #[.int .i64 0, .int .i64 0, .int .i64 0, .bool false, .int .i64 0, .int .i64 0, .int .i64 0, .int .i64 0, .int .i64 0, .int .i64 0, .slice none 0 0, .int .i64 0, .int .i64 0, .int .i64 0]) := H9 (by have h9 := Blk.new ((w.alloc (.cells #[.int .i64 le, .int .i64 mo, .int .i64 nw, .bool true, .int .i64 ze, .int .i64 fi, .int .i64 hi, .int .i64 dn, .int .i64 sp, .int .i64 tr, .slice A l.length qc, .int .i64 la, .int .i64 tw, .int .i64 pd] 40)).alloc (.cells #[.int .i64 sq, .int .i64 ti, .bool mk, .int .u8 ty, .slice MA pl.length mc] 103)) 40 #[.int .i64 0, .int .i64 0, .int .i64 0, .bool false, .int .i64 0, .int .i64 0, .int .i64 0, .int .i64 0, .int .i64 0, .int .i64 0, .slice none 0 0, .int .i64 0, .int .i64 0, .int .i64 0]; rw [zal] at h9; exact h9)
 have HA := H9 hA
 have HMI := H9 hMI
 clear hr hA hMI
 obtain ⟨hok, hnow, hfm, hlt⟩ := zbu HR.out.symm
 rw [decide_eq_true_iff] at hfm
 obtain ⟨hl2, hpl⟩ := zbv (l := l) hok rfl
 obtain ⟨⟨z0, z1⟩, ⟨f0, f1⟩, hoq⟩ := zbn _ ⟨sq, ti, mk, ty, pl⟩ now hok hfm hlt hnow
 have k2 := H9 fun (W : World) (hW : Bel w W) => zcf le mo nw true ze fi hi dn sp tr A l l.length qc la tw pd now W rfl hl2 hcap hcm W.heap.size (Nat.le_refl _) ((HA.out.below hW).more hW.size) (fun a ha => Nat.le_trans (hpl a ha) (by omega)) (by have := hok.2.2.1.2.2; simp only at this; omega)
 obtain ⟨⟨⟨n0, n1⟩, _, ⟨t0, t1⟩, _, _, _, ⟨sb0, sb1⟩⟩, ⟨cf0, cf1, cf2⟩, ⟨⟨la0, la1⟩, ⟨tw0, tw1⟩, _⟩, _, _⟩ := hok
 obtain ⟨⟨q0, q1⟩, ⟨ti0, ti1⟩, pl0⟩ := hfm
 simp only at n0 n1 t0 t1 sb0 sb1 cf0 cf1 cf2 la0 la1 tw0 tw1 q0 q1 ti0 ti1 pl0 hlt
 have hnow0 : 0 ≤ now := by omega
 have hput : Jb.put ⟨le, mo, nw, true, ze, fi, hi, dn, sp, tr, l.map TW.w, la, tw, pd⟩ now ⟨sq, ti, mk, ty, pl⟩ = ((Jb.put0 (Jb.run0 ⟨le, mo, nw, true, ze, fi, hi, dn, sp, tr, l.map TW.w, la, tw, pd⟩ now) ⟨sq, ti, mk, ty, pl⟩).1, Jb.due now (l.map TW.w), (Jb.put0 (Jb.run0 ⟨le, mo, nw, true, ze, fi, hi, dn, sp, tr, l.map TW.w, la, tw, pd⟩ now) ⟨sq, ti, mk, ty, pl⟩).2, 0) := by unfold Jb.put; rw [← HR.out, if_pos rfl]
 have HPUT := H9 hput
 have HOQ := H9 hoq
 have HANY := H9 hany
 have HLS := H9 hls
 have HFULL := H9 qf
 clear hlt hl2 hpl hput hoq z0 z1 f0 f1 n0 n1 hany hls qf
 go_enter Tryz.func46, Tryz.ntmps46
 go_wp2_with fail
 refine (k1.out _ U0.out).mono ?_
 rintro e w1 ⟨rfl, hb1⟩
 have U1 := H9 (U0.out.later hb1)
 have BS1 := H9 (BS.out.later hb1)
 have BM1 := H9 (BM.out.later hb1)
 have BR1 := H9 (BR.out.later hb1)
 have hs1 := BR1.out.lt
 clear hb1
 have s0 := (BS1.out).at 0 _ rfl
 have s1 := (BS1.out).at 1 _ rfl
 have s2 := (BS1.out).at 2 _ rfl
 have s3 := (BS1.out).at 3 _ rfl
 have s4 := (BS1.out).at 4 _ rfl
 have s5 := (BS1.out).at 5 _ rfl
 have s6 := (BS1.out).at 6 _ rfl
 have s7 := (BS1.out).at 7 _ rfl
 have s8 := (BS1.out).at 8 _ rfl
 have s9 := (BS1.out).at 9 _ rfl
 have s10 := (BS1.out).at 10 _ rfl
 have s11 := (BS1.out).at 11 _ rfl
 have s12 := (BS1.out).at 12 _ rfl
 have s13 := (BS1.out).at 13 _ rfl
 have m0 := (BM1.out).at 0 _ rfl
 have m1 := (BM1.out).at 1 _ rfl
 have m2 := (BM1.out).at 2 _ rfl
 have m3 := (BM1.out).at 3 _ rfl
 have m4 := (BM1.out).at 4 _ rfl
 go_wp2_with fail
 refine (k2.out _ U1.out).mono ?_
 rintro e w2 ⟨A1, c1, l1, A2, c2, l2, B, rfl, hm1, hm2, hw1, hq2, hB1, hB2, hca, qb⟩
 have HCA := H9 hca
 clear hca
 generalize hND : Jb.maxSq dn (Jb.due now (l.map TW.w)) = ND
 generalize hPD : pd + ((Jb.due now (l.map TW.w)).length : Int) = PD
 have hS1 : Jb.run0 ⟨le, mo, nw, true, ze, fi, hi, dn, sp, tr, l.map TW.w, la, tw, pd⟩ now = ⟨le, mo, now, true, ze, fi, hi, ND, sp, tr, l2.map TW.w, la, tw, PD⟩ := by rw [hm2, ← hND, ← hPD]; rfl
 rw [hS1] at HPUT HANY HLS HFULL
 have HOQ2 : Hid (Jb.okQ now hi (l2.map TW.w)) := H9 (by rw [hm2]; exact HOQ.out)
 have hl22 : l2.length ≤ 200 := by have := HOQ2.out.1; simpa using this
 have PS : PSt w w2 w1.heap.size B [.int .i64 le, .int .i64 mo, .int .i64 nw, .bool true, .int .i64 ze, .int .i64 fi, .int .i64 hi, .int .i64 dn, .int .i64 sp, .int .i64 tr, .slice A l.length qc, .int .i64 la, .int .i64 tw, .int .i64 pd] [.int .i64 sq, .int .i64 ti, .bool mk, .int .u8 ty, .slice MA pl.length mc] A1 l1 A2 l2.length c2 l2 := ⟨BS1.out.later qb, BM1.out.later qb, BR1.out.later qb, U1.out.later qb, hw1, hq2, by omega, by omega, hB2⟩
 have PS2 := H9 PS
 have HM1 := H9 hm1
 clear qb hm1 hm2 hw1 hq2 hND hPD hS1 PS HOQ BS1 BM1 BR1 U1 k1 k2 BS BM BR U0 s0 s1 s2 s3 s4 s5 s6 s7 s8 s9 s10 s11 s12 s13 m0 m1 m2 m3 m4
 have b0 := (PS2.out.bs).at 0 _ rfl
 have b1 := (PS2.out.bs).at 1 _ rfl
 have b2 := (PS2.out.bs).at 2 _ rfl
 have b3 := (PS2.out.bs).at 3 _ rfl
 have b4 := (PS2.out.bs).at 4 _ rfl
 have b5 := (PS2.out.bs).at 5 _ rfl
 have b6 := (PS2.out.bs).at 6 _ rfl
 have b7 := (PS2.out.bs).at 7 _ rfl
 have b8 := (PS2.out.bs).at 8 _ rfl
 have b9 := (PS2.out.bs).at 9 _ rfl
 have b10 := (PS2.out.bs).at 10 _ rfl
 have b11 := (PS2.out.bs).at 11 _ rfl
 have b12 := (PS2.out.bs).at 12 _ rfl
 have b13 := (PS2.out.bs).at 13 _ rfl
 have r0 := (PS2.out.br).at 0 _ rfl
 have r1 := (PS2.out.br).at 1 _ rfl
 have r2 := (PS2.out.br).at 2 _ rfl
 have r3 := (PS2.out.br).at 3 _ rfl
 have r4 := (PS2.out.br).at 4 _ rfl
 have r5 := (PS2.out.br).at 5 _ rfl
 have r6 := (PS2.out.br).at 6 _ rfl
 have r7 := (PS2.out.br).at 7 _ rfl
 have r8 := (PS2.out.br).at 8 _ rfl
 have r9 := (PS2.out.br).at 9 _ rfl
 have r10 := (PS2.out.br).at 10 _ rfl
 have r11 := (PS2.out.br).at 11 _ rfl
 have r12 := (PS2.out.br).at 12 _ rfl
 have r13 := (PS2.out.br).at 13 _ rfl
 have m0 := (PS2.out.bm).at 0 _ rfl
 have m1 := (PS2.out.bm).at 1 _ rfl
 have m2 := (PS2.out.bm).at 2 _ rfl
 have m3 := (PS2.out.bm).at 3 _ rfl
 have m4 := (PS2.out.bm).at 4 _ rfl
 have bfz := PS2.out.bs.frozen
 have rfz := PS2.out.br.frozen
 have hlo1 := PS2.out.lo1
 have hlo2 := PS2.out.lo2
 have hhB := PS2.out.hB
 go_wp2_with fail
 obtain ⟨W3, hW3⟩ : ∃ W, W = setRow w.heap.size w2 0 [.int .i64 le, .int .i64 mo, .int .i64 now, .bool true, .int .i64 ze, .int .i64 fi, .int .i64 hi, .int .i64 ND, .int .i64 sp, .int .i64 tr, .slice A2 l2.length c2, .int .i64 la, .int .i64 tw, .int .i64 PD] := ⟨_, rfl⟩
 have PW3 := PS2.out.row [.int .i64 le, .int .i64 mo, .int .i64 now, .bool true, .int .i64 ze, .int .i64 fi, .int .i64 hi, .int .i64 ND, .int .i64 sp, .int .i64 tr, .slice A2 l2.length c2, .int .i64 la, .int .i64 tw, .int .i64 PD] rfl
 rw [← hW3] at PW3
 have PS3 := H9 PW3
 simp only [setRow, Nat.zero_add, Nat.reduceAdd] at hW3
 rw [← hW3]
 clear PW3 hW3 PS2
 have k3 := zav A2 l2 l2.length c2 (w.heap.size + 1) sq W3 rfl (by omega) PS3.out.q2.wts (PS3.out.bm.at 0 _ rfl) PS3.out.bm.lt
 rw [show ((l2.map TW.w).any fun x => x.m.sq == sq) = false from HANY.out] at k3
 refine k3.mono ?_
 rintro e w4 ⟨rfl, hb4⟩
 have PS4 := H9 (PS3.out.later hb4)
 clear hb4 k3 PS3 b0 r0 b1 r1 b2 r2 b3 r3 b4 r4 b5 r5 b6 r6 b7 r7 b8 r8 b9 r9 b10 r10 b11 r11 b12 r12 b13 r13 m0 m1 m2 m3 m4 bfz rfz
 obtain ⟨b0, b1, b2, b3, b4, b5, b6, b7, b8, b9, b10, b11, b12, b13⟩ := Blk.c14 PS4.out.bs
 obtain ⟨r0, r1, r2, r3, r4, r5, r6, r7, r8, r9, r10, r11, r12, r13⟩ := Blk.c14 PS4.out.br
 obtain ⟨m0, m1, m2, m3, m4⟩ := Blk.c5 PS4.out.bm
 have bfz := PS4.out.bs.frozen
 have rfz := PS4.out.br.frozen
 have hls' : ND < sq := HLS.out
 have qf := HFULL.out
 simp only [List.length_map] at qf
 have hfull' : (200 : Int) ≤ (l2.length : Int) := by omega
 clear qf
 go_wp2_with fail
 have PF : PSt w _ w1.heap.size B [.int .i64 le, .int .i64 mo, .int .i64 now, .bool true, .int .i64 ze, .int .i64 fi, .int .i64 hi, .int .i64 ND, .int .i64 sp, .int .i64 tr, .slice A2 l2.length c2, .int .i64 la, .int .i64 tw, .int .i64 PD] [.int .i64 sq, .int .i64 ti, .bool mk, .int .u8 ty, .slice MA pl.length mc] A1 l1 A2 l2.length c2 l2 := PS4.out
 obtain ⟨BF, F1, F2, F3, F4, F5, UF⟩ := PF.finW [.int .i64 le, .int .i64 mo, .int .i64 now, .bool true, .int .i64 ze, .int .i64 fi, .int .i64 hi, .int .i64 ND, .int .i64 sp, .int .i64 tr, .slice A2 l2.length c2, .int .i64 la, .int .i64 tw, .int .i64 PD] rfl
 simp only [setRow, Nat.zero_add, Nat.reduceAdd] at BF F1 F2 UF
 have hp : Jb.put0 ⟨le, mo, now, true, ze, fi, hi, ND, sp, tr, l2.map TW.w, la, tw, PD⟩ ⟨sq, ti, mk, ty, pl⟩ = (⟨le, mo, now, true, ze, fi, hi, ND, sp, tr, l2.map TW.w, la, tw, PD⟩, 4) := zhp _ _ HANY.out (fun h => absurd h.2 (Int.not_le.2 HLS.out)) HFULL.out
 refine bodyPost_ret (v := .tuple #[.agg (List.toArray [.int .i64 le, .int .i64 mo, .int .i64 now, .bool true, .int .i64 ze, .int .i64 fi, .int .i64 hi, .int .i64 ND, .int .i64 sp, .int .i64 tr, .slice A2 l2.length c2, .int .i64 la, .int .i64 tw, .int .i64 PD]), .slice A1 l1.length c1, .int .u8 4, .int .u8 0]) (zbm Tryz.results46 rfl (run_loadVar_row (P := Tryz.prog) _ _ _ _ _ _ _ BF Tryz.underlying40 rfl (by kernel_rfl)) rfl rfl rfl) rfl ⟨A1, c1, l1, A2, c2, l2, ?_, ?_, ?_, F1, F2, by rw [F3]; exact F4, F5, UF, HCA.out.1, HCA.out.2⟩
 · rw [HPUT.out, hp]; rfl
 · rw [HPUT.out]; exact HM1.out
 · rw [HPUT.out, hp]
theorem zlh (le mo nw : Int) (ze fi hi dn sp tr : Int) (A : Option Addr) (l : List TW) (n qc : Nat) (la tw pd : Int) (now : Int) (sq ti : Int) (mk : Bool) (ty : Int) (MA : Option Addr) (mn mc : Nat) (pl : List Int) (w : World) (hn : l.length = n) (hmn : pl.length = mn) (hl : n ≤ 100000) (hm9 : mn ≤ 100000) (hcap : n ≤ qc) (hcm : qc ≤ maxLen) (hA : Wts w w.heap.size A l) (hK : ∀ a ∈ l, I64 a.w.m.sq) (hMI : IntsAt w w.heap.size .u8 MA pl) (hr0 : Jb.chk ⟨le, mo, nw, false, ze, fi, hi, dn, sp, tr, l.map TW.w, la, tw, pd⟩ now (decide (Jb.Md.ok ⟨sq, ti, mk, ty, pl⟩)) = 0) (hany : ((Jb.run0 ⟨le, mo, nw, false, ze, fi, hi, dn, sp, tr, l.map TW.w, la, tw, pd⟩ now).q.any fun w => w.m.sq == sq) = false) (qf : (Jb.run0 ⟨le, mo, nw, false, ze, fi, hi, dn, sp, tr, l.map TW.w, la, tw, pd⟩ now).q.length < 200) (hla : (Jb.ptime (Jb.meas (Jb.run0 ⟨le, mo, nw, false, ze, fi, hi, dn, sp, tr, l.map TW.w, la, tw, pd⟩ now) (⟨sq, ti, mk, ty, pl⟩ : Jb.Md)) ti) ≤ now) : Calls Tryz.prog 46 #[.agg #[.int .i64 le, .int .i64 mo, .int .i64 nw, .bool false, .int .i64 ze, .int .i64 fi, .int .i64 hi, .int .i64 dn, .int .i64 sp, .int .i64 tr, .slice A n qc, .int .i64 la, .int .i64 tw, .int .i64 pd], .int .i64 now, .agg #[.int .i64 sq, .int .i64 ti, .bool mk, .int .u8 ty, .slice MA mn mc]] w (JPutW ⟨le, mo, nw, false, ze, fi, hi, dn, sp, tr, l.map TW.w, la, tw, pd⟩ now ⟨sq, ti, mk, ty, pl⟩ w) := by
 subst hn
 subst hmn
 obtain ⟨r, hr⟩ : ∃ r, r = Jb.chk ⟨le, mo, nw, false, ze, fi, hi, dn, sp, tr, l.map TW.w, la, tw, pd⟩ now (decide (Jb.Md.ok ⟨sq, ti, mk, ty, pl⟩)) := ⟨_, rfl⟩
 rw [← hr] at hr0
 subst hr0
 have HR := H9 hr
 have k1 := H9 fun (W : World) (hW : Bel w W) => zbi le mo nw false ze fi hi dn sp tr A l l.length qc la tw pd now sq ti mk ty MA pl.length mc W rfl hl ((hA.below hW).more hW.size) hK (decide (Jb.Md.ok ⟨sq, ti, mk, ty, pl⟩)) rfl 0 hr
 have U0 := H9 ((((Bel.refl w).push (.cells #[.int .i64 le, .int .i64 mo, .int .i64 nw, .bool false, .int .i64 ze, .int .i64 fi, .int .i64 hi, .int .i64 dn, .int .i64 sp, .int .i64 tr, .slice A l.length qc, .int .i64 la, .int .i64 tw, .int .i64 pd] 40)).push (.cells #[.int .i64 sq, .int .i64 ti, .bool mk, .int .u8 ty, .slice MA pl.length mc] 103)).push (.cells #[.int .i64 0, .int .i64 0, .int .i64 0, .bool false, .int .i64 0, .int .i64 0, .int .i64 0, .int .i64 0, .int .i64 0, .int .i64 0, .slice none 0 0, .int .i64 0, .int .i64 0, .int .i64 0] 40))
 have BS := H9 (((Blk.new w 40 #[.int .i64 le, .int .i64 mo, .int .i64 nw, .bool false, .int .i64 ze, .int .i64 fi, .int .i64 hi, .int .i64 dn, .int .i64 sp, .int .i64 tr, .slice A l.length qc, .int .i64 la, .int .i64 tw, .int .i64 pd]).push (.cells #[.int .i64 sq, .int .i64 ti, .bool mk, .int .u8 ty, .slice MA pl.length mc] 103)).push (.cells #[.int .i64 0, .int .i64 0, .int .i64 0, .bool false, .int .i64 0, .int .i64 0, .int .i64 0, .int .i64 0, .int .i64 0, .int .i64 0, .slice none 0 0, .int .i64 0, .int .i64 0, .int .i64 0] 40))
 have BM := H9 ((Blk.new1 w (.cells #[.int .i64 le, .int .i64 mo, .int .i64 nw, .bool false, .int .i64 ze, .int .i64 fi, .int .i64 hi, .int .i64 dn, .int .i64 sp, .int .i64 tr, .slice A l.length qc, .int .i64 la, .int .i64 tw, .int .i64 pd] 40) 103 #[.int .i64 sq, .int .i64 ti, .bool mk, .int .u8 ty, .slice MA pl.length mc]).push (.cells #[.int .i64 0, .int .i64 0, .int .i64 0, .bool false, .int .i64 0, .int .i64 0, .int .i64 0, .int .i64 0, .int .i64 0, .int .i64 0, .slice none 0 0, .int .i64 0, .int .i64 0, .int .i64 0] 40))
 have BR : Hid (Blk (((w.alloc (.cells #[.int .i64 le, .int .i64 mo, .int .i64 nw, .bool false, .int .i64 ze, .int .i64 fi, .int .i64 hi, .int .i64 dn, .int .i64 sp, .int .i64 tr, .slice A l.length qc, .int .i64 la, .int .i64 tw, .int .i64 pd] 40)).alloc (.cells #[.int .i64 sq, .int .i64 ti, .bool mk, .int .u8 ty, .slice MA pl.length mc] 103)).alloc (.cells #[.int .i64 0, .int .i64 0, .int .i64 0, .bool false, .int .i64 0, .int .i64 0, .int .i64 0, .int .i64 0, .int .i64 0, .int .i64 0, .slice none 0 0, .int .i64 0, .int .i64 0, .int .i64 0] 40)) (w.heap.size + 1 + 1) 40 #[.int .i64 0, .int .i64 0, .int .i64 0, .bool false, .int .i64 0, .int .i64 0, .int .i64 0, .int .i64 0, .int .i64 0, .int .i64 0, .slice none 0 0, .int .i64 0, .int .i64 0, .int .i64 0]) := H9 (by have h9 := Blk.new ((w.alloc (.cells #[.int .i64 le, .int .i64 mo, .int .i64 nw, .bool false, .int .i64 ze, .int .i64 fi, .int .i64 hi, .int .i64 dn, .int .i64 sp, .int .i64 tr, .slice A l.length qc, .int .i64 la, .int .i64 tw, .int .i64 pd] 40)).alloc (.cells #[.int .i64 sq, .int .i64 ti, .bool mk, .int .u8 ty, .slice MA pl.length mc] 103)) 40 #[.int .i64 0, .int .i64 0, .int .i64 0, .bool false, .int .i64 0, .int .i64 0, .int .i64 0, .int .i64 0, .int .i64 0, .int .i64 0, .slice none 0 0, .int .i64 0, .int .i64 0, .int .i64 0]; rw [zal] at h9; exact h9)
 have HA := H9 hA
 have HMI := H9 hMI
 clear hr hA hMI
 obtain ⟨hok, hnow, hfm, hlt⟩ := zbu HR.out.symm
 rw [decide_eq_true_iff] at hfm
 obtain ⟨hl2, hpl⟩ := zbv (l := l) hok rfl
 obtain ⟨⟨z0, z1⟩, ⟨f0, f1⟩, hoq⟩ := zbn _ ⟨sq, ti, mk, ty, pl⟩ now hok hfm hlt hnow
 have k2 := H9 fun (W : World) (hW : Bel w W) => zcf le mo nw false ze fi hi dn sp tr A l l.length qc la tw pd now W rfl hl2 hcap hcm W.heap.size (Nat.le_refl _) ((HA.out.below hW).more hW.size) (fun a ha => Nat.le_trans (hpl a ha) (by omega)) (by have := hok.2.2.1.2.2; simp only at this; omega)
 obtain ⟨⟨⟨n0, n1⟩, _, ⟨t0, t1⟩, _, _, _, ⟨sb0, sb1⟩⟩, ⟨cf0, cf1, cf2⟩, ⟨⟨la0, la1⟩, ⟨tw0, tw1⟩, _⟩, _, _⟩ := hok
 obtain ⟨⟨q0, q1⟩, ⟨ti0, ti1⟩, pl0⟩ := hfm
 simp only at n0 n1 t0 t1 sb0 sb1 cf0 cf1 cf2 la0 la1 tw0 tw1 q0 q1 ti0 ti1 pl0 hlt
 have hnow0 : 0 ≤ now := by omega
 have hput : Jb.put ⟨le, mo, nw, false, ze, fi, hi, dn, sp, tr, l.map TW.w, la, tw, pd⟩ now ⟨sq, ti, mk, ty, pl⟩ = ((Jb.put0 (Jb.run0 ⟨le, mo, nw, false, ze, fi, hi, dn, sp, tr, l.map TW.w, la, tw, pd⟩ now) ⟨sq, ti, mk, ty, pl⟩).1, Jb.due now (l.map TW.w), (Jb.put0 (Jb.run0 ⟨le, mo, nw, false, ze, fi, hi, dn, sp, tr, l.map TW.w, la, tw, pd⟩ now) ⟨sq, ti, mk, ty, pl⟩).2, 0) := by unfold Jb.put; rw [← HR.out, if_pos rfl]
 have HPUT := H9 hput
 have HOQ := H9 hoq
 have hzf := And.intro (And.intro z0 z1) (And.intro f0 f1)
 have HZF := H9 hzf
 clear hzf
 have HANY := H9 hany
 have HFULL := H9 qf
 have HLA := H9 hla
 clear hlt hl2 hpl hput hoq z0 z1 f0 f1 n0 n1 hany qf hla
 go_enter Tryz.func46, Tryz.ntmps46
 go_wp2_with fail
 refine (k1.out _ U0.out).mono ?_
 rintro e w1 ⟨rfl, hb1⟩
 have U1 := H9 (U0.out.later hb1)
 have BS1 := H9 (BS.out.later hb1)
 have BM1 := H9 (BM.out.later hb1)
 have BR1 := H9 (BR.out.later hb1)
 have hs1 := BR1.out.lt
 clear hb1
 have s0 := (BS1.out).at 0 _ rfl
 have s1 := (BS1.out).at 1 _ rfl
 have s2 := (BS1.out).at 2 _ rfl
 have s3 := (BS1.out).at 3 _ rfl
 have s4 := (BS1.out).at 4 _ rfl
 have s5 := (BS1.out).at 5 _ rfl
 have s6 := (BS1.out).at 6 _ rfl
 have s7 := (BS1.out).at 7 _ rfl
 have s8 := (BS1.out).at 8 _ rfl
 have s9 := (BS1.out).at 9 _ rfl
 have s10 := (BS1.out).at 10 _ rfl
 have s11 := (BS1.out).at 11 _ rfl
 have s12 := (BS1.out).at 12 _ rfl
 have s13 := (BS1.out).at 13 _ rfl
 have m0 := (BM1.out).at 0 _ rfl
 have m1 := (BM1.out).at 1 _ rfl
 have m2 := (BM1.out).at 2 _ rfl
 have m3 := (BM1.out).at 3 _ rfl
 have m4 := (BM1.out).at 4 _ rfl
 go_wp2_with fail
 refine (k2.out _ U1.out).mono ?_
 rintro e w2 ⟨A1, c1, l1, A2, c2, l2, B, rfl, hm1, hm2, hw1, hq2, hB1, hB2, hca, qb⟩
 have HCA := H9 hca
 clear hca
 generalize hND : Jb.maxSq dn (Jb.due now (l.map TW.w)) = ND
 generalize hPD : pd + ((Jb.due now (l.map TW.w)).length : Int) = PD
 have hS1 : Jb.run0 ⟨le, mo, nw, false, ze, fi, hi, dn, sp, tr, l.map TW.w, la, tw, pd⟩ now = ⟨le, mo, now, false, ze, fi, hi, ND, sp, tr, l2.map TW.w, la, tw, PD⟩ := by rw [hm2, ← hND, ← hPD]; rfl
 rw [hS1] at HPUT HANY HFULL HLA HZF
 have HOQ2 : Hid (Jb.okQ now hi (l2.map TW.w)) := H9 (by rw [hm2]; exact HOQ.out)
 have hl22 : l2.length ≤ 200 := by have := HOQ2.out.1; simpa using this
 have PS : PSt w w2 w1.heap.size B [.int .i64 le, .int .i64 mo, .int .i64 nw, .bool false, .int .i64 ze, .int .i64 fi, .int .i64 hi, .int .i64 dn, .int .i64 sp, .int .i64 tr, .slice A l.length qc, .int .i64 la, .int .i64 tw, .int .i64 pd] [.int .i64 sq, .int .i64 ti, .bool mk, .int .u8 ty, .slice MA pl.length mc] A1 l1 A2 l2.length c2 l2 := ⟨BS1.out.later qb, BM1.out.later qb, BR1.out.later qb, U1.out.later qb, hw1, hq2, by omega, by omega, hB2⟩
 have PS2 := H9 PS
 have HM1 := H9 hm1
 clear qb hm1 hm2 hw1 hq2 hND hPD hS1 PS HOQ BS1 BM1 BR1 U1 k1 k2 BS BM BR U0 s0 s1 s2 s3 s4 s5 s6 s7 s8 s9 s10 s11 s12 s13 m0 m1 m2 m3 m4
 have b0 := (PS2.out.bs).at 0 _ rfl
 have b1 := (PS2.out.bs).at 1 _ rfl
 have b2 := (PS2.out.bs).at 2 _ rfl
 have b3 := (PS2.out.bs).at 3 _ rfl
 have b4 := (PS2.out.bs).at 4 _ rfl
 have b5 := (PS2.out.bs).at 5 _ rfl
 have b6 := (PS2.out.bs).at 6 _ rfl
 have b7 := (PS2.out.bs).at 7 _ rfl
 have b8 := (PS2.out.bs).at 8 _ rfl
 have b9 := (PS2.out.bs).at 9 _ rfl
 have b10 := (PS2.out.bs).at 10 _ rfl
 have b11 := (PS2.out.bs).at 11 _ rfl
 have b12 := (PS2.out.bs).at 12 _ rfl
 have b13 := (PS2.out.bs).at 13 _ rfl
 have r0 := (PS2.out.br).at 0 _ rfl
 have r1 := (PS2.out.br).at 1 _ rfl
 have r2 := (PS2.out.br).at 2 _ rfl
 have r3 := (PS2.out.br).at 3 _ rfl
 have r4 := (PS2.out.br).at 4 _ rfl
 have r5 := (PS2.out.br).at 5 _ rfl
 have r6 := (PS2.out.br).at 6 _ rfl
 have r7 := (PS2.out.br).at 7 _ rfl
 have r8 := (PS2.out.br).at 8 _ rfl
 have r9 := (PS2.out.br).at 9 _ rfl
 have r10 := (PS2.out.br).at 10 _ rfl
 have r11 := (PS2.out.br).at 11 _ rfl
 have r12 := (PS2.out.br).at 12 _ rfl
 have r13 := (PS2.out.br).at 13 _ rfl
 have m0 := (PS2.out.bm).at 0 _ rfl
 have m1 := (PS2.out.bm).at 1 _ rfl
 have m2 := (PS2.out.bm).at 2 _ rfl
 have m3 := (PS2.out.bm).at 3 _ rfl
 have m4 := (PS2.out.bm).at 4 _ rfl
 have bfz := PS2.out.bs.frozen
 have rfz := PS2.out.br.frozen
 have hlo1 := PS2.out.lo1
 have hlo2 := PS2.out.lo2
 have hhB := PS2.out.hB
 go_wp2_with fail
 obtain ⟨W3, hW3⟩ : ∃ W, W = setRow w.heap.size w2 0 [.int .i64 le, .int .i64 mo, .int .i64 now, .bool false, .int .i64 ze, .int .i64 fi, .int .i64 hi, .int .i64 ND, .int .i64 sp, .int .i64 tr, .slice A2 l2.length c2, .int .i64 la, .int .i64 tw, .int .i64 PD] := ⟨_, rfl⟩
 have PW3 := PS2.out.row [.int .i64 le, .int .i64 mo, .int .i64 now, .bool false, .int .i64 ze, .int .i64 fi, .int .i64 hi, .int .i64 ND, .int .i64 sp, .int .i64 tr, .slice A2 l2.length c2, .int .i64 la, .int .i64 tw, .int .i64 PD] rfl
 rw [← hW3] at PW3
 have PS3 := H9 PW3
 simp only [setRow, Nat.zero_add, Nat.reduceAdd] at hW3
 rw [← hW3]
 clear PW3 hW3 PS2
 have k3 := zav A2 l2 l2.length c2 (w.heap.size + 1) sq W3 rfl (by omega) PS3.out.q2.wts (PS3.out.bm.at 0 _ rfl) PS3.out.bm.lt
 rw [show ((l2.map TW.w).any fun x => x.m.sq == sq) = false from HANY.out] at k3
 refine k3.mono ?_
 rintro e w4 ⟨rfl, hb4⟩
 have PS4 := H9 (PS3.out.later hb4)
 clear hb4 k3 PS3 b0 r0 b1 r1 b2 r2 b3 r3 b4 r4 b5 r5 b6 r6 b7 r7 b8 r8 b9 r9 b10 r10 b11 r11 b12 r12 b13 r13 m0 m1 m2 m3 m4 bfz rfz
 obtain ⟨b0, b1, b2, b3, b4, b5, b6, b7, b8, b9, b10, b11, b12, b13⟩ := Blk.c14 PS4.out.bs
 obtain ⟨r0, r1, r2, r3, r4, r5, r6, r7, r8, r9, r10, r11, r12, r13⟩ := Blk.c14 PS4.out.br
 obtain ⟨m0, m1, m2, m3, m4⟩ := Blk.c5 PS4.out.bm
 have bfz := PS4.out.bs.frozen
 have rfz := PS4.out.br.frozen
 have qf := HFULL.out
 simp only [List.length_map] at qf
 have hfull' : (l2.length : Int) < 200 := by omega
 clear qf
 go_wp2_with fail
 have hat2 : ∀ a ∈ l2, 0 ≤ a.w.at_ ∧ a.w.at_ ≤ 562949953421312 := fun a ha => by
  have h9 := ((Jb.okQ_iff _ _ _).1 HOQ2.out).2.1 a.w (List.mem_map.2 ⟨a, ha, rfl⟩)
  have h8 := h9.2.1
  have h7 := h9.2.2.1
  omega
 refine (zbx le mo now false ze fi hi ND sp tr A2 l2 l2.length c2 la tw PD sq ti mk ty MA pl.length mc _ rfl hl22 PS4.out.q2.wts hnow0 hnow ti0 ti1 t0 t1 sb0 sb1 cf0 cf1 cf2 hat2 pl).mono ?_
 rintro e w5 ⟨rfl, hb5⟩
 generalize hS2 : Jb.meas ⟨le, mo, now, false, ze, fi, hi, ND, sp, tr, l2.map TW.w, la, tw, PD⟩ ⟨sq, ti, mk, ty, pl⟩ = s2
 rw [hS2] at HZF HLA
 have hmq := Jb.meas_q ⟨le, mo, now, false, ze, fi, hi, ND, sp, tr, l2.map TW.w, la, tw, PD⟩ ⟨sq, ti, mk, ty, pl⟩
 rw [hS2] at hmq
 obtain ⟨hmq1, hmq2, hmq3, hmq4⟩ := hmq
 have HS2 := H9 hS2
 have hl0 : 0 ≤ s2.late := by rw [hmq3]; exact la0
 have hl1 : s2.late ≤ 281474976710656 := by rw [hmq3]; exact la1
 have HMQ1 := H9 hmq1
 have HMQ2 := H9 hmq2
 clear hmq1 hmq2 hmq3 hmq4 hS2 hat2
 have PS5 := H9 (PS4.out.later hb5)
 clear hb5 PS4 b0 r0 b1 r1 b2 r2 b3 r3 b4 r4 b5 r5 b6 r6 b7 r7 b8 r8 b9 r9 b10 r10 b11 r11 b12 r12 b13 r13 m0 m1 m2 m3 m4 bfz rfz
 simp only [JV]
 obtain ⟨b0, b1, b2, b3, b4, b5, b6, b7, b8, b9, b10, b11, b12, b13⟩ := Blk.c14 PS5.out.bs
 obtain ⟨r0, r1, r2, r3, r4, r5, r6, r7, r8, r9, r10, r11, r12, r13⟩ := Blk.c14 PS5.out.br
 obtain ⟨m0, m1, m2, m3, m4⟩ := Blk.c5 PS5.out.bm
 have bfz := PS5.out.bs.frozen
 have rfz := PS5.out.br.frozen
 go_wp2_with fail
 obtain ⟨W5, hW5⟩ : ∃ W, W = setRow w.heap.size w5 0 [.int .i64 s2.least, .int .i64 s2.most, .int .i64 s2.now, .bool s2.on, .int .i64 s2.zero, .int .i64 s2.first, .int .i64 s2.high, .int .i64 s2.done, .int .i64 s2.spread, .int .i64 s2.trans, .slice A2 l2.length c2, .int .i64 s2.late, .int .i64 s2.twice, .int .i64 s2.played] := ⟨_, rfl⟩
 have PW5 := PS5.out.row [.int .i64 s2.least, .int .i64 s2.most, .int .i64 s2.now, .bool s2.on, .int .i64 s2.zero, .int .i64 s2.first, .int .i64 s2.high, .int .i64 s2.done, .int .i64 s2.spread, .int .i64 s2.trans, .slice A2 l2.length c2, .int .i64 s2.late, .int .i64 s2.twice, .int .i64 s2.played] rfl
 rw [← hW5] at PW5
 have PS6 := H9 PW5
 simp only [setRow, Nat.zero_add, Nat.reduceAdd] at hW5
 rw [← hW5]
 clear PW5 hW5 PS5
 refine (zbt s2.least s2.most s2.now s2.on s2.zero s2.first s2.high s2.done s2.spread s2.trans A2 l2.length c2 s2.late s2.twice s2.played ti W5 HZF.out.1.1 HZF.out.1.2 HZF.out.2.1 HZF.out.2.2 ti0 ti1).mono ?_
 rintro e w6 ⟨rfl, hb6⟩
 have hab : -1200000000000000 ≤ s2.zero + (ti - s2.first) / 8 ∧ s2.zero + (ti - s2.first) / 8 ≤ 1200000000000000 := by
  have := HZF.out.1.1
  have := HZF.out.1.2
  have := HZF.out.2.1
  have := HZF.out.2.2
  omega
 unfold Jb.ptime at HLA
 generalize hAT : s2.zero + (ti - s2.first) / 8 = AT at hab HLA ⊢
 have HAT := H9 hAT
 obtain ⟨at0, at1⟩ := hab
 have PS7 := H9 (PS6.out.later hb6)
 clear hb6 hAT PS6 b0 r0 b1 r1 b2 r2 b3 r3 b4 r4 b5 r5 b6 r6 b7 r7 b8 r8 b9 r9 b10 r10 b11 r11 b12 r12 b13 r13 m0 m1 m2 m3 m4 bfz rfz
 obtain ⟨b0, b1, b2, b3, b4, b5, b6, b7, b8, b9, b10, b11, b12, b13⟩ := Blk.c14 PS7.out.bs
 obtain ⟨r0, r1, r2, r3, r4, r5, r6, r7, r8, r9, r10, r11, r12, r13⟩ := Blk.c14 PS7.out.br
 obtain ⟨m0, m1, m2, m3, m4⟩ := Blk.c5 PS7.out.bm
 have bfz := PS7.out.bs.frozen
 have rfz := PS7.out.br.frozen
 have hla := HLA.out
 have ht : s2.late + 1 ≤ 9000000000000000000 := by omega
 go_wp2_with fail
 have PF : PSt w _ w1.heap.size B [.int .i64 s2.least, .int .i64 s2.most, .int .i64 s2.now, .bool s2.on, .int .i64 s2.zero, .int .i64 s2.first, .int .i64 s2.high, .int .i64 s2.done, .int .i64 s2.spread, .int .i64 s2.trans, .slice A2 l2.length c2, .int .i64 (s2.late + 1), .int .i64 s2.twice, .int .i64 s2.played] [.int .i64 sq, .int .i64 ti, .bool mk, .int .u8 ty, .slice MA pl.length mc] A1 l1 A2 l2.length c2 l2 := PS7.out.set 11 (.int .i64 (s2.late + 1))
 obtain ⟨BF, F1, F2, F3, F4, F5, UF⟩ := PF.finW [.int .i64 s2.least, .int .i64 s2.most, .int .i64 s2.now, .bool s2.on, .int .i64 s2.zero, .int .i64 s2.first, .int .i64 s2.high, .int .i64 s2.done, .int .i64 s2.spread, .int .i64 s2.trans, .slice A2 l2.length c2, .int .i64 (s2.late + 1), .int .i64 s2.twice, .int .i64 s2.played] rfl
 simp only [setRow, Nat.zero_add, Nat.reduceAdd] at BF F1 F2 UF
 have hp : Jb.put0 ⟨le, mo, now, false, ze, fi, hi, ND, sp, tr, l2.map TW.w, la, tw, PD⟩ ⟨sq, ti, mk, ty, pl⟩ = ({ s2 with late := s2.late + 1 }, 2) := by
  rw [zco _ _ HANY.out (fun h => Bool.noConfusion h.1) (Nat.not_le.2 HFULL.out) s2 AT HS2.out HAT.out]
  exact if_pos HLA.out
 refine bodyPost_ret (v := .tuple #[.agg (List.toArray [.int .i64 s2.least, .int .i64 s2.most, .int .i64 s2.now, .bool s2.on, .int .i64 s2.zero, .int .i64 s2.first, .int .i64 s2.high, .int .i64 s2.done, .int .i64 s2.spread, .int .i64 s2.trans, .slice A2 l2.length c2, .int .i64 (s2.late + 1), .int .i64 s2.twice, .int .i64 s2.played]), .slice A1 l1.length c1, .int .u8 2, .int .u8 0]) (zbm Tryz.results46 rfl (run_loadVar_row (P := Tryz.prog) _ _ _ _ _ _ _ BF Tryz.underlying40 rfl (by kernel_rfl)) rfl rfl rfl) rfl ⟨A1, c1, l1, A2, c2, l2, ?_, ?_, ?_, F1, F2, by rw [F3]; exact F4, F5, UF, HCA.out.1, HCA.out.2⟩
 · rw [HPUT.out, hp]; rfl
 · rw [HPUT.out]; exact HM1.out
 · rw [HPUT.out, hp]; exact HMQ1.out.symm
end Go.Proofs.YtahbecinkciahaaGreat

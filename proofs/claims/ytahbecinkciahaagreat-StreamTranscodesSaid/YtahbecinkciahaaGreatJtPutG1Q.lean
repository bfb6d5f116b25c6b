/- Layer 30: Put of the program, one way. -/
import Derived.Test.YtahbecinkciahaaGreatJtMeas2Q
import Derived.Test.YtahbecinkciahaaGreatJtPutAQ
import Derived.Test.YtahbecinkciahaaGreatJtPutCQ
import Derived.Test.YtahbecinkciahaaGreatJtPutD1Q
import Derived.Test.YtahbecinkciahaaGreatJtPutE1Q
import Derived.Test.YtahbecinkciahaaGreatJtPutF1Q
import Derived.Test.YtahbecinkciahaaGreatCmpLawsQ
import Derived.Test.YtahbecinkciahaaGreatSbCodecQ
import Derived.Test.YtahbecinkciahaaGreatJtPlainQ
import Derived.Test.YtahbecinkciahaaGreatSbNumPQ
import Derived.StillTailTactics
import Derived.RegionTactic
import Derived.Deep.RegionHeld3
import Derived.ChangeAlike
import Derived.Laws.BitsAllLaws
namespace Go.Proofs.YtahbecinkciahaaGreat
open Go.RowKit
set_option linter.unusedVariables false
set_option linter.unusedSimpArgs false
attribute [local go_sem ↓] run_min_plain run_max_plain
attribute [local go_sem] setCell_drewN alloc_drewN
set_option maxRecDepth 100000 in
set_option maxHeartbeats 12800000 in
theorem jput_take1 (le mo nw : Int) (ze fi hi dn sp tr : Int) (A : Option Addr) (l : List TW) (n qc : Nat) (la tw pd : Int) (now : Int) (sq ti : Int) (mk : Bool) (ty : Int) (MA : Option Addr) (mn mc : Nat) (pl : List Int) (w : World) (hn : l.length = n) (hmn : pl.length = mn) (hl : n ≤ 100000) (hm9 : mn ≤ 100000) (hcap : n ≤ qc) (hcm : qc ≤ maxLen) (hA : Wts w w.heap.size A l) (hK : ∀ a ∈ l, I64 a.w.m.sq) (hMI : IntsAt w w.heap.size .u8 MA pl) (hr0 : Jb.chk ⟨le, mo, nw, true, ze, fi, hi, dn, sp, tr, l.map TW.w, la, tw, pd⟩ now (decide (Jb.Md.ok ⟨sq, ti, mk, ty, pl⟩)) = 0) (hany : ((Jb.run0 ⟨le, mo, nw, true, ze, fi, hi, dn, sp, tr, l.map TW.w, la, tw, pd⟩ now).q.any fun w => w.m.sq == sq) = false) (hls : (Jb.run0 ⟨le, mo, nw, true, ze, fi, hi, dn, sp, tr, l.map TW.w, la, tw, pd⟩ now).done < sq) (hfull : (Jb.run0 ⟨le, mo, nw, true, ze, fi, hi, dn, sp, tr, l.map TW.w, la, tw, pd⟩ now).q.length < 200) (hla : now < (Jb.ptime (Jb.meas (Jb.run0 ⟨le, mo, nw, true, ze, fi, hi, dn, sp, tr, l.map TW.w, la, tw, pd⟩ now) (⟨sq, ti, mk, ty, pl⟩ : Jb.Md)) ti)) (hfar : (Jb.ptime (Jb.meas (Jb.run0 ⟨le, mo, nw, true, ze, fi, hi, dn, sp, tr, l.map TW.w, la, tw, pd⟩ now) (⟨sq, ti, mk, ty, pl⟩ : Jb.Md)) ti) ≤ now + 120000) : Calls Tryz.prog 46 #[.agg #[.int .i64 le, .int .i64 mo, .int .i64 nw, .bool true, .int .i64 ze, .int .i64 fi, .int .i64 hi, .int .i64 dn, .int .i64 sp, .int .i64 tr, .slice A n qc, .int .i64 la, .int .i64 tw, .int .i64 pd], .int .i64 now, .agg #[.int .i64 sq, .int .i64 ti, .bool mk, .int .u8 ty, .slice MA mn mc]] w (JPutW ⟨le, mo, nw, true, ze, fi, hi, dn, sp, tr, l.map TW.w, la, tw, pd⟩ now ⟨sq, ti, mk, ty, pl⟩ w) := by
  subst hn
  subst hmn
  obtain ⟨r, hr⟩ : ∃ r, r = Jb.chk ⟨le, mo, nw, true, ze, fi, hi, dn, sp, tr, l.map TW.w, la, tw, pd⟩ now (decide (Jb.Md.ok ⟨sq, ti, mk, ty, pl⟩)) := ⟨_, rfl⟩
  rw [← hr] at hr0
  subst hr0
  have HR := Lib.hid hr
  have k1 := Lib.hid fun (W : World) (hW : Bel w W) => check_any le mo nw true ze fi hi dn sp tr A l l.length qc la tw pd now sq ti mk ty MA pl.length mc W rfl hl ((hA.below hW).more hW.size) hK (decide (Jb.Md.ok ⟨sq, ti, mk, ty, pl⟩)) rfl 0 hr
  have U0 := Lib.hid ((((Bel.refl w).push (.cells #[.int .i64 le, .int .i64 mo, .int .i64 nw, .bool true, .int .i64 ze, .int .i64 fi, .int .i64 hi, .int .i64 dn, .int .i64 sp, .int .i64 tr, .slice A l.length qc, .int .i64 la, .int .i64 tw, .int .i64 pd] 40)).push (.cells #[.int .i64 sq, .int .i64 ti, .bool mk, .int .u8 ty, .slice MA pl.length mc] 103)).push (.cells #[.int .i64 0, .int .i64 0, .int .i64 0, .bool false, .int .i64 0, .int .i64 0, .int .i64 0, .int .i64 0, .int .i64 0, .int .i64 0, .slice none 0 0, .int .i64 0, .int .i64 0, .int .i64 0] 40))
  have BS := Lib.hid (((Blk.new w 40 #[.int .i64 le, .int .i64 mo, .int .i64 nw, .bool true, .int .i64 ze, .int .i64 fi, .int .i64 hi, .int .i64 dn, .int .i64 sp, .int .i64 tr, .slice A l.length qc, .int .i64 la, .int .i64 tw, .int .i64 pd]).push (.cells #[.int .i64 sq, .int .i64 ti, .bool mk, .int .u8 ty, .slice MA pl.length mc] 103)).push (.cells #[.int .i64 0, .int .i64 0, .int .i64 0, .bool false, .int .i64 0, .int .i64 0, .int .i64 0, .int .i64 0, .int .i64 0, .int .i64 0, .slice none 0 0, .int .i64 0, .int .i64 0, .int .i64 0] 40))
  have BM := Lib.hid ((Blk.new1 w (.cells #[.int .i64 le, .int .i64 mo, .int .i64 nw, .bool true, .int .i64 ze, .int .i64 fi, .int .i64 hi, .int .i64 dn, .int .i64 sp, .int .i64 tr, .slice A l.length qc, .int .i64 la, .int .i64 tw, .int .i64 pd] 40) 103 #[.int .i64 sq, .int .i64 ti, .bool mk, .int .u8 ty, .slice MA pl.length mc]).push (.cells #[.int .i64 0, .int .i64 0, .int .i64 0, .bool false, .int .i64 0, .int .i64 0, .int .i64 0, .int .i64 0, .int .i64 0, .int .i64 0, .slice none 0 0, .int .i64 0, .int .i64 0, .int .i64 0] 40))
  have BR : Hid (Blk (((w.alloc (.cells #[.int .i64 le, .int .i64 mo, .int .i64 nw, .bool true, .int .i64 ze, .int .i64 fi, .int .i64 hi, .int .i64 dn, .int .i64 sp, .int .i64 tr, .slice A l.length qc, .int .i64 la, .int .i64 tw, .int .i64 pd] 40)).alloc (.cells #[.int .i64 sq, .int .i64 ti, .bool mk, .int .u8 ty, .slice MA pl.length mc] 103)).alloc (.cells #[.int .i64 0, .int .i64 0, .int .i64 0, .bool false, .int .i64 0, .int .i64 0, .int .i64 0, .int .i64 0, .int .i64 0, .int .i64 0, .slice none 0 0, .int .i64 0, .int .i64 0, .int .i64 0] 40)) (w.heap.size + 1 + 1) 40 #[.int .i64 0, .int .i64 0, .int .i64 0, .bool false, .int .i64 0, .int .i64 0, .int .i64 0, .int .i64 0, .int .i64 0, .int .i64 0, .slice none 0 0, .int .i64 0, .int .i64 0, .int .i64 0]) := Lib.hid (by have h9 := Blk.new ((w.alloc (.cells #[.int .i64 le, .int .i64 mo, .int .i64 nw, .bool true, .int .i64 ze, .int .i64 fi, .int .i64 hi, .int .i64 dn, .int .i64 sp, .int .i64 tr, .slice A l.length qc, .int .i64 la, .int .i64 tw, .int .i64 pd] 40)).alloc (.cells #[.int .i64 sq, .int .i64 ti, .bool mk, .int .u8 ty, .slice MA pl.length mc] 103)) 40 #[.int .i64 0, .int .i64 0, .int .i64 0, .bool false, .int .i64 0, .int .i64 0, .int .i64 0, .int .i64 0, .int .i64 0, .int .i64 0, .slice none 0 0, .int .i64 0, .int .i64 0, .int .i64 0]; rw [size_alloc2] at h9; exact h9)
  have HA := Lib.hid hA
  have HMI := Lib.hid hMI
  clear hr hA hMI
  obtain ⟨hok, hnow, hfm, hlt⟩ := chk_zero HR.out.symm
  rw [decide_eq_true_iff] at hfm
  obtain ⟨hl2, hpl⟩ := ok_small (l := l) hok rfl
  obtain ⟨⟨z0, z1⟩, ⟨f0, f1⟩, hoq⟩ := put_facts _ ⟨sq, ti, mk, ty, pl⟩ now hok hfm hlt hnow
  have k2 := Lib.hid fun (W : World) (hW : Bel w W) => run_any le mo nw true ze fi hi dn sp tr A l l.length qc la tw pd now W rfl hl2 hcap hcm W.heap.size (Nat.le_refl _) ((HA.out.below hW).more hW.size) (fun a ha => Nat.le_trans (hpl a ha) (by omega)) (by have := hok.2.2.1.2.2; simp only at this; omega)
  obtain ⟨⟨⟨n0, n1⟩, _, ⟨t0, t1⟩, _, _, _, ⟨sb0, sb1⟩⟩, ⟨cf0, cf1, cf2⟩, ⟨⟨la0, la1⟩, ⟨tw0, tw1⟩, _⟩, _, _⟩ := hok
  obtain ⟨⟨q0, q1⟩, ⟨ti0, ti1⟩, pl0⟩ := hfm
  simp only at n0 n1 t0 t1 sb0 sb1 cf0 cf1 cf2 la0 la1 tw0 tw1 q0 q1 ti0 ti1 pl0 hlt
  have hnow0 : 0 ≤ now := by omega
  have hput : Jb.put ⟨le, mo, nw, true, ze, fi, hi, dn, sp, tr, l.map TW.w, la, tw, pd⟩ now ⟨sq, ti, mk, ty, pl⟩ = ((Jb.put0 (Jb.run0 ⟨le, mo, nw, true, ze, fi, hi, dn, sp, tr, l.map TW.w, la, tw, pd⟩ now) ⟨sq, ti, mk, ty, pl⟩).1, Jb.due now (l.map TW.w), (Jb.put0 (Jb.run0 ⟨le, mo, nw, true, ze, fi, hi, dn, sp, tr, l.map TW.w, la, tw, pd⟩ now) ⟨sq, ti, mk, ty, pl⟩).2, 0) := by unfold Jb.put; rw [← HR.out, if_pos rfl]
  have HPUT := Lib.hid hput
  have HOQ := Lib.hid hoq
  have hzf := And.intro (And.intro z0 z1) (And.intro f0 f1)
  have HZF := Lib.hid hzf
  clear hzf
  have HANY := Lib.hid hany
  have HLS := Lib.hid hls
  have HFULL := Lib.hid hfull
  have HLA := Lib.hid hla
  have HFAR := Lib.hid hfar
  clear hlt hl2 hpl hput hoq z0 z1 f0 f1 n0 n1 hany hls hfull hla hfar
  go_enter Tryz.func46, Tryz.ntmps46
  go_wp2_with fail
  refine (k1.out _ U0.out).mono ?_
  rintro e w1 ⟨rfl, hb1⟩
  have U1 := Lib.hid (U0.out.later hb1)
  have BS1 := Lib.hid (BS.out.later hb1)
  have BM1 := Lib.hid (BM.out.later hb1)
  have BR1 := Lib.hid (BR.out.later hb1)
  have hs1 := BR1.out.lt
  clear hb1
  have s0 := (BS1.out).at 0 _ rfl
  have s1 := (BS1.out).at 1 _ rfl
  have s2 := (BS1.out).at 2 _ rfl
  have s3 := (BS1.out).at 3 _ rfl
  have s4 := (BS1.out).at 4 _ rfl
  have s5 := (BS1.out).at 5 _ rfl
  have s6 := (BS1.out).at 6 _ rfl
  have s7 := (BS1.out).at 7 _ rfl
  have s8 := (BS1.out).at 8 _ rfl
  have s9 := (BS1.out).at 9 _ rfl
  have s10 := (BS1.out).at 10 _ rfl
  have s11 := (BS1.out).at 11 _ rfl
  have s12 := (BS1.out).at 12 _ rfl
  have s13 := (BS1.out).at 13 _ rfl
  have m0 := (BM1.out).at 0 _ rfl
  have m1 := (BM1.out).at 1 _ rfl
  have m2 := (BM1.out).at 2 _ rfl
  have m3 := (BM1.out).at 3 _ rfl
  have m4 := (BM1.out).at 4 _ rfl
  go_wp2_with fail
  refine (k2.out _ U1.out).mono ?_
  rintro e w2 ⟨A1, c1, l1, A2, c2, l2, B, rfl, hm1, hm2, hw1, hq2, hB1, hB2, hca, hbel⟩
  have HCA := Lib.hid hca
  clear hca
  generalize hND : Jb.maxSq dn (Jb.due now (l.map TW.w)) = ND
  generalize hPD : pd + ((Jb.due now (l.map TW.w)).length : Int) = PD
  have hS1 : Jb.run0 ⟨le, mo, nw, true, ze, fi, hi, dn, sp, tr, l.map TW.w, la, tw, pd⟩ now = ⟨le, mo, now, true, ze, fi, hi, ND, sp, tr, l2.map TW.w, la, tw, PD⟩ := by rw [hm2, ← hND, ← hPD]; rfl
  rw [hS1] at HPUT HANY HLS HFULL HLA HFAR HZF
  have HOQ2 : Hid (Jb.okQ now hi (l2.map TW.w)) := Lib.hid (by rw [hm2]; exact HOQ.out)
  have hl22 : l2.length ≤ 200 := by have := HOQ2.out.1; simpa using this
  have PS : PSt w w2 w1.heap.size B [.int .i64 le, .int .i64 mo, .int .i64 nw, .bool true, .int .i64 ze, .int .i64 fi, .int .i64 hi, .int .i64 dn, .int .i64 sp, .int .i64 tr, .slice A l.length qc, .int .i64 la, .int .i64 tw, .int .i64 pd] [.int .i64 sq, .int .i64 ti, .bool mk, .int .u8 ty, .slice MA pl.length mc] A1 l1 A2 l2.length c2 l2 := ⟨BS1.out.later hbel, BM1.out.later hbel, BR1.out.later hbel, U1.out.later hbel, hw1, hq2, by omega, by omega, hB2⟩
  have PS2 := Lib.hid PS
  have HM1 := Lib.hid hm1
  clear hbel hm1 hm2 hw1 hq2 hND hPD hS1 PS HOQ BS1 BM1 BR1 U1 k1 k2 BS BM BR U0 s0 s1 s2 s3 s4 s5 s6 s7 s8 s9 s10 s11 s12 s13 m0 m1 m2 m3 m4
  have b0 := (PS2.out.bs).at 0 _ rfl
  have b1 := (PS2.out.bs).at 1 _ rfl
  have b2 := (PS2.out.bs).at 2 _ rfl
  have b3 := (PS2.out.bs).at 3 _ rfl
  have b4 := (PS2.out.bs).at 4 _ rfl
  have b5 := (PS2.out.bs).at 5 _ rfl
  have b6 := (PS2.out.bs).at 6 _ rfl
  have b7 := (PS2.out.bs).at 7 _ rfl
  have b8 := (PS2.out.bs).at 8 _ rfl
  have b9 := (PS2.out.bs).at 9 _ rfl
  have b10 := (PS2.out.bs).at 10 _ rfl
  have b11 := (PS2.out.bs).at 11 _ rfl
  have b12 := (PS2.out.bs).at 12 _ rfl
  have b13 := (PS2.out.bs).at 13 _ rfl
  have r0 := (PS2.out.br).at 0 _ rfl
  have r1 := (PS2.out.br).at 1 _ rfl
  have r2 := (PS2.out.br).at 2 _ rfl
  have r3 := (PS2.out.br).at 3 _ rfl
  have r4 := (PS2.out.br).at 4 _ rfl
  have r5 := (PS2.out.br).at 5 _ rfl
  have r6 := (PS2.out.br).at 6 _ rfl
  have r7 := (PS2.out.br).at 7 _ rfl
  have r8 := (PS2.out.br).at 8 _ rfl
  have r9 := (PS2.out.br).at 9 _ rfl
  have r10 := (PS2.out.br).at 10 _ rfl
  have r11 := (PS2.out.br).at 11 _ rfl
  have r12 := (PS2.out.br).at 12 _ rfl
  have r13 := (PS2.out.br).at 13 _ rfl
  have m0 := (PS2.out.bm).at 0 _ rfl
  have m1 := (PS2.out.bm).at 1 _ rfl
  have m2 := (PS2.out.bm).at 2 _ rfl
  have m3 := (PS2.out.bm).at 3 _ rfl
  have m4 := (PS2.out.bm).at 4 _ rfl
  have bfz := PS2.out.bs.frozen
  have rfz := PS2.out.br.frozen
  have hlo1 := PS2.out.lo1
  have hlo2 := PS2.out.lo2
  have hhB := PS2.out.hB
  go_wp2_with fail
  obtain ⟨W3, hW3⟩ : ∃ W, W = setRow w.heap.size w2 0 [.int .i64 le, .int .i64 mo, .int .i64 now, .bool true, .int .i64 ze, .int .i64 fi, .int .i64 hi, .int .i64 ND, .int .i64 sp, .int .i64 tr, .slice A2 l2.length c2, .int .i64 la, .int .i64 tw, .int .i64 PD] := ⟨_, rfl⟩
  have PW3 := PS2.out.row [.int .i64 le, .int .i64 mo, .int .i64 now, .bool true, .int .i64 ze, .int .i64 fi, .int .i64 hi, .int .i64 ND, .int .i64 sp, .int .i64 tr, .slice A2 l2.length c2, .int .i64 la, .int .i64 tw, .int .i64 PD] rfl
  rw [← hW3] at PW3
  have PS3 := Lib.hid PW3
  simp only [setRow, Nat.zero_add, Nat.reduceAdd] at hW3
  rw [← hW3]
  clear PW3 hW3 PS2
  have k3 := contains_any A2 l2 l2.length c2 (w.heap.size + 1) sq W3 rfl (by omega) PS3.out.q2.wts (PS3.out.bm.at 0 _ rfl) PS3.out.bm.lt
  rw [show ((l2.map TW.w).any fun x => x.m.sq == sq) = false from HANY.out] at k3
  refine k3.mono ?_
  rintro e w4 ⟨rfl, hb4⟩
  have PS4 := Lib.hid (PS3.out.later hb4)
  clear hb4 k3 PS3 b0 r0 b1 r1 b2 r2 b3 r3 b4 r4 b5 r5 b6 r6 b7 r7 b8 r8 b9 r9 b10 r10 b11 r11 b12 r12 b13 r13 m0 m1 m2 m3 m4 bfz rfz
  obtain ⟨b0, b1, b2, b3, b4, b5, b6, b7, b8, b9, b10, b11, b12, b13⟩ := Blk.c14 PS4.out.bs
  obtain ⟨r0, r1, r2, r3, r4, r5, r6, r7, r8, r9, r10, r11, r12, r13⟩ := Blk.c14 PS4.out.br
  obtain ⟨m0, m1, m2, m3, m4⟩ := Blk.c5 PS4.out.bm
  have bfz := PS4.out.bs.frozen
  have rfz := PS4.out.br.frozen
  have hls' : ND < sq := HLS.out
  have hfull := HFULL.out
  simp only [List.length_map] at hfull
  have hfull' : (l2.length : Int) < 200 := by omega
  clear hfull
  go_wp2_with fail
  have hat2 : ∀ a ∈ l2, 0 ≤ a.w.at_ ∧ a.w.at_ ≤ 562949953421312 := fun a ha => by
    have h9 := ((Jb.okQ_iff _ _ _).1 HOQ2.out).2.1 a.w (List.mem_map.2 ⟨a, ha, rfl⟩)
    have h8 := h9.2.1
    have h7 := h9.2.2.1
    omega
  refine (measure_any le mo now true ze fi hi ND sp tr A2 l2 l2.length c2 la tw PD sq ti mk ty MA pl.length mc _ rfl hl22 PS4.out.q2.wts hnow0 hnow ti0 ti1 t0 t1 sb0 sb1 cf0 cf1 cf2 hat2 pl).mono ?_
  rintro e w5 ⟨rfl, hb5⟩
  generalize hS2 : Jb.meas ⟨le, mo, now, true, ze, fi, hi, ND, sp, tr, l2.map TW.w, la, tw, PD⟩ ⟨sq, ti, mk, ty, pl⟩ = s2
  rw [hS2] at HZF HLA HFAR
  have hmq := Jb.meas_q ⟨le, mo, now, true, ze, fi, hi, ND, sp, tr, l2.map TW.w, la, tw, PD⟩ ⟨sq, ti, mk, ty, pl⟩
  rw [hS2] at hmq
  obtain ⟨hmq1, hmq2, hmq3, hmq4⟩ := hmq
  have HS2 := Lib.hid hS2
  have hl0 : 0 ≤ s2.late := by rw [hmq3]; exact la0
  have hl1 : s2.late ≤ 281474976710656 := by rw [hmq3]; exact la1
  have HMQ1 := Lib.hid hmq1
  have HMQ2 := Lib.hid hmq2
  clear hmq1 hmq2 hmq3 hmq4 hS2 hat2
  have PS5 := Lib.hid (PS4.out.later hb5)
  clear hb5 PS4 b0 r0 b1 r1 b2 r2 b3 r3 b4 r4 b5 r5 b6 r6 b7 r7 b8 r8 b9 r9 b10 r10 b11 r11 b12 r12 b13 r13 m0 m1 m2 m3 m4 bfz rfz
  simp only [JV]
  obtain ⟨b0, b1, b2, b3, b4, b5, b6, b7, b8, b9, b10, b11, b12, b13⟩ := Blk.c14 PS5.out.bs
  obtain ⟨r0, r1, r2, r3, r4, r5, r6, r7, r8, r9, r10, r11, r12, r13⟩ := Blk.c14 PS5.out.br
  obtain ⟨m0, m1, m2, m3, m4⟩ := Blk.c5 PS5.out.bm
  have bfz := PS5.out.bs.frozen
  have rfz := PS5.out.br.frozen
  go_wp2_with fail
  obtain ⟨W5, hW5⟩ : ∃ W, W = setRow w.heap.size w5 0 [.int .i64 s2.least, .int .i64 s2.most, .int .i64 s2.now, .bool s2.on, .int .i64 s2.zero, .int .i64 s2.first, .int .i64 s2.high, .int .i64 s2.done, .int .i64 s2.spread, .int .i64 s2.trans, .slice A2 l2.length c2, .int .i64 s2.late, .int .i64 s2.twice, .int .i64 s2.played] := ⟨_, rfl⟩
  have PW5 := PS5.out.row [.int .i64 s2.least, .int .i64 s2.most, .int .i64 s2.now, .bool s2.on, .int .i64 s2.zero, .int .i64 s2.first, .int .i64 s2.high, .int .i64 s2.done, .int .i64 s2.spread, .int .i64 s2.trans, .slice A2 l2.length c2, .int .i64 s2.late, .int .i64 s2.twice, .int .i64 s2.played] rfl
  rw [← hW5] at PW5
  have PS6 := Lib.hid PW5
  simp only [setRow, Nat.zero_add, Nat.reduceAdd] at hW5
  rw [← hW5]
  clear PW5 hW5 PS5
  refine (playTime_any s2.least s2.most s2.now s2.on s2.zero s2.first s2.high s2.done s2.spread s2.trans A2 l2.length c2 s2.late s2.twice s2.played ti W5 HZF.out.1.1 HZF.out.1.2 HZF.out.2.1 HZF.out.2.2 ti0 ti1).mono ?_
  rintro e w6 ⟨rfl, hb6⟩
  have hab : -1200000000000000 ≤ s2.zero + (ti - s2.first) / 8 ∧ s2.zero + (ti - s2.first) / 8 ≤ 1200000000000000 := by
    have := HZF.out.1.1
    have := HZF.out.1.2
    have := HZF.out.2.1
    have := HZF.out.2.2
    omega
  unfold Jb.ptime at HLA HFAR
  generalize hAT : s2.zero + (ti - s2.first) / 8 = AT at hab HLA HFAR ⊢
  have HAT := Lib.hid hAT
  obtain ⟨at0, at1⟩ := hab
  have PS7 := Lib.hid (PS6.out.later hb6)
  clear hb6 hAT PS6 b0 r0 b1 r1 b2 r2 b3 r3 b4 r4 b5 r5 b6 r6 b7 r7 b8 r8 b9 r9 b10 r10 b11 r11 b12 r12 b13 r13 m0 m1 m2 m3 m4 bfz rfz
  obtain ⟨b0, b1, b2, b3, b4, b5, b6, b7, b8, b9, b10, b11, b12, b13⟩ := Blk.c14 PS7.out.bs
  obtain ⟨r0, r1, r2, r3, r4, r5, r6, r7, r8, r9, r10, r11, r12, r13⟩ := Blk.c14 PS7.out.br
  obtain ⟨m0, m1, m2, m3, m4⟩ := Blk.c5 PS7.out.bm
  have bfz := PS7.out.bs.frozen
  have rfz := PS7.out.br.frozen
  have hla := HLA.out
  have hfar := HFAR.out
  go_wp2_with fail
  refine (copyMedia_any sq ti mk ty MA pl pl.length mc _ w.heap.size (Nat.le_of_lt (Nat.lt_of_le_of_lt (Nat.le_succ _) PS7.out.bm.lt)) (HMI.out.below PS7.out.u) (by omega) rfl).mono ?_
  rintro e w7 ⟨A9, c9, rfl, hI9, hb7⟩
  have PS8 := Lib.hid (PS7.out.later hb7)
  have HI9 := Lib.hid hI9
  have hwb := hb7.size
  have PS9 := Lib.hid (PS8.out.later ((Below.refl w7.heap.size w7).alloc (Nat.le_refl _) (.cells #[.int .i64 AT, .int .i64 sq, .int .i64 ti, .bool mk, .int .u8 ty, .slice A9 pl.length c9] 105)))
  clear hb7 hI9 b0 r0 b1 r1 b2 r2 b3 r3 b4 r4 b5 r5 b6 r6 b7 r7 b8 r8 b9 r9 b10 r10 b11 r11 b12 r12 b13 r13 m0 m1 m2 m3 m4 bfz rfz
  have hasc := ((Jb.okQ_iff _ _ _).1 HOQ2.out).2.2.1
  have hne9 : ∀ y ∈ l2.map TW.w, y.m.sq ≠ sq := fun y hy e => by
    have h9 := HANY.out
    rw [List.any_eq_false] at h9
    exact h9 y hy (by simpa using e)
  have HASC := Lib.hid hasc
  have HNE := Lib.hid hne9
  clear hasc hne9
  have hlw7 := PS8.out.bs.lt
  obtain ⟨b0, b1, b2, b3, b4, b5, b6, b7, b8, b9, b10, b11, b12, b13⟩ := Blk.c14 PS8.out.bs
  obtain ⟨r0, r1, r2, r3, r4, r5, r6, r7, r8, r9, r10, r11, r12, r13⟩ := Blk.c14 PS8.out.br
  obtain ⟨m0, m1, m2, m3, m4⟩ := Blk.c5 PS8.out.bm
  have bfz := PS8.out.bs.frozen
  have rfz := PS8.out.br.frozen
  go_wp2_with fail
  refine (bsearch_any A2 l2 l2.length c2 ⟨AT, ⟨sq, ti, mk, ty, pl⟩⟩ A9 pl.length c9 _ rfl (by omega) PS9.out.q2.wts HASC.out HNE.out).mono ?_
  rintro e w9 ⟨rfl, hb9⟩
  have hplace := place_le (l2.map TW.w) ⟨AT, ⟨sq, ti, mk, ty, pl⟩⟩
  rw [List.length_map] at hplace
  have hsplit := place_split (l2.map TW.w) ⟨AT, ⟨sq, ti, mk, ty, pl⟩⟩
  generalize place (l2.map TW.w) ⟨AT, ⟨sq, ti, mk, ty, pl⟩⟩ = PP at hplace hsplit ⊢
  have HSPL := Lib.hid hsplit
  have PS10 := Lib.hid (PS9.out.later hb9)
  have HI10 := Lib.hid (((HI9.out.push (.cells #[.int .i64 AT, .int .i64 sq, .int .i64 ti, .bool mk, .int .u8 ty, .slice A9 pl.length c9] 105))).later hb9)
  have BW := Lib.hid ((Blk.new w7 105 #[.int .i64 AT, .int .i64 sq, .int .i64 ti, .bool mk, .int .u8 ty, .slice A9 pl.length c9]).later hb9)
  have hsz9 := hb9.size
  have hobl : ∀ g, ownB A2 = some g → g < w6.heap.size := fun g hg => (PS7.out.q2.own.block g hg).2
  have HOBL := Lib.hid hobl
  clear hb9 hsplit hobl PS9 PS8 b0 r0 b1 r1 b2 r2 b3 r3 b4 r4 b5 r5 b6 r6 b7 r7 b8 r8 b9 r9 b10 r10 b11 r11 b12 r12 b13 r13 m0 m1 m2 m3 m4 bfz rfz
  have x0 := BW.out.at 0 _ rfl
  have x1 := BW.out.at 1 _ rfl
  have x2 := BW.out.at 2 _ rfl
  have x3 := BW.out.at 3 _ rfl
  have x4 := BW.out.at 4 _ rfl
  have x5 := BW.out.at 5 _ rfl
  have hlw9 := PS10.out.bs.lt
  have hlx9 := BW.out.lt
  obtain ⟨b0, b1, b2, b3, b4, b5, b6, b7, b8, b9, b10, b11, b12, b13⟩ := Blk.c14 PS10.out.bs
  obtain ⟨r0, r1, r2, r3, r4, r5, r6, r7, r8, r9, r10, r11, r12, r13⟩ := Blk.c14 PS10.out.br
  obtain ⟨m0, m1, m2, m3, m4⟩ := Blk.c5 PS10.out.bm
  have bfz := PS10.out.bs.frozen
  have rfz := PS10.out.br.frozen
  have PS11 := Lib.hid (PS10.out.later ((Below.refl w9.heap.size w9).alloc (Nat.le_refl _) (.cells #[.int .i64 AT, .int .i64 sq, .int .i64 ti, .bool mk, .int .u8 ty, .slice A9 pl.length c9] 105)))
  have BV := Lib.hid (Blk.new w9 105 #[.int .i64 AT, .int .i64 sq, .int .i64 ti, .bool mk, .int .u8 ty, .slice A9 pl.length c9])
  have HI11 := Lib.hid (HI10.out.push (.cells #[.int .i64 AT, .int .i64 sq, .int .i64 ti, .bool mk, .int .u8 ty, .slice A9 pl.length c9] 105))
  have hwz : w6.heap.size < w9.heap.size := by simp at hsz9; omega
  go_wp2_with fail
  refine (insert_any B l2.length c2 PP w9.heap.size A2 l2 ⟨⟨AT, ⟨sq, ti, mk, ty, pl⟩⟩, A9, c9⟩ _ (by omega) PS11.out.hB PS11.out.q2 hplace BV.out (fun e => by have h9 := HOBL.out _ e.symm; omega) HI11.out.1 (fun h0 b off e he => by have h9 := HI11.out.2 h0 b off e; have h8 := HOBL.out b he.symm; omega) (fun h0 b off e => by have h9 := HI11.out.2 h0 b off e; have hB6 := PS7.out.hB; omega)).mono ?_
  rintro e w11 ⟨A3, c3, rfl, hq3, hb3⟩
  have PS12 := Lib.hid (PS11.out.ins hb3 hq3)
  have hl3m : (l2.take PP ++ (⟨⟨AT, ⟨sq, ti, mk, ty, pl⟩⟩, A9, c9⟩ : TW) :: l2.drop PP).map TW.w = Jb.ins (l2.map TW.w) ⟨AT, ⟨sq, ti, mk, ty, pl⟩⟩ := by rw [HSPL.out, List.map_append, List.map_cons, List.map_take, List.map_drop]
  generalize (l2.take PP ++ (⟨⟨AT, ⟨sq, ti, mk, ty, pl⟩⟩, A9, c9⟩ : TW) :: l2.drop PP) = l3 at PS12 hl3m
  have HL3 := Lib.hid hl3m
  clear hb3 hq3 hl3m PS11 PS10 b0 r0 b1 r1 b2 r2 b3 r3 b4 r4 b5 r5 b6 r6 b7 r7 b8 r8 b9 r9 b10 r10 b11 r11 b12 r12 b13 r13 m0 m1 m2 m3 m4 bfz rfz x0 x1 x2 x3 x4 x5
  obtain ⟨b0, b1, b2, b3, b4, b5, b6, b7, b8, b9, b10, b11, b12, b13⟩ := Blk.c14 PS12.out.bs
  obtain ⟨r0, r1, r2, r3, r4, r5, r6, r7, r8, r9, r10, r11, r12, r13⟩ := Blk.c14 PS12.out.br
  obtain ⟨m0, m1, m2, m3, m4⟩ := Blk.c5 PS12.out.bm
  have bfz := PS12.out.bs.frozen
  have rfz := PS12.out.br.frozen
  go_wp2_with fail
  have PF : PSt w _ w1.heap.size B [.int .i64 s2.least, .int .i64 s2.most, .int .i64 s2.now, .bool s2.on, .int .i64 s2.zero, .int .i64 s2.first, .int .i64 s2.high, .int .i64 s2.done, .int .i64 s2.spread, .int .i64 s2.trans, .slice A3 (l2.length + 1) c3, .int .i64 s2.late, .int .i64 s2.twice, .int .i64 s2.played] [.int .i64 sq, .int .i64 ti, .bool mk, .int .u8 ty, .slice MA pl.length mc] A1 l1 A3 (l2.length + 1) c3 l3 := PS12.out.set 10 (.slice A3 (l2.length + 1) c3)
  obtain ⟨BF, F1, F2, F3, F4, F5, UF⟩ := PF.finW [.int .i64 s2.least, .int .i64 s2.most, .int .i64 s2.now, .bool s2.on, .int .i64 s2.zero, .int .i64 s2.first, .int .i64 s2.high, .int .i64 s2.done, .int .i64 s2.spread, .int .i64 s2.trans, .slice A3 (l2.length + 1) c3, .int .i64 s2.late, .int .i64 s2.twice, .int .i64 s2.played] rfl
  simp only [setRow, Nat.zero_add, Nat.reduceAdd] at BF F1 F2 UF
  have hp : Jb.put0 ⟨le, mo, now, true, ze, fi, hi, ND, sp, tr, l2.map TW.w, la, tw, PD⟩ ⟨sq, ti, mk, ty, pl⟩ = ({ s2 with q := Jb.ins s2.q ⟨AT, ⟨sq, ti, mk, ty, pl⟩⟩ }, 1) := by
    rw [put0_more _ _ HANY.out (fun h => absurd h.2 (Int.not_le.2 HLS.out)) (Nat.not_le.2 HFULL.out) s2 AT HS2.out HAT.out]
    rw [if_neg (show ¬AT ≤ now from Int.not_le.2 HLA.out)]
    exact if_neg (Int.not_lt.2 HFAR.out)
  refine bodyPost_ret (v := .tuple #[.agg (List.toArray [.int .i64 s2.least, .int .i64 s2.most, .int .i64 s2.now, .bool s2.on, .int .i64 s2.zero, .int .i64 s2.first, .int .i64 s2.high, .int .i64 s2.done, .int .i64 s2.spread, .int .i64 s2.trans, .slice A3 (l2.length + 1) c3, .int .i64 s2.late, .int .i64 s2.twice, .int .i64 s2.played]), .slice A1 l1.length c1, .int .u8 1, .int .u8 0]) (res_cttt Tryz.results46 rfl (run_loadVar_row (P := Tryz.prog) _ _ _ _ _ _ _ BF Tryz.underlying40 rfl (by kernel_rfl)) rfl rfl rfl) rfl ⟨A1, c1, l1, A3, c3, l3, ?_, ?_, ?_, F1, F2, by rw [F3]; exact F4, F5, UF, HCA.out.1, HCA.out.2⟩
  · rw [HPUT.out, hp, F3]; rfl
  · rw [HPUT.out]; exact HM1.out
  · rw [HPUT.out, hp]; rw [HL3.out]; exact congrArg (fun q => Jb.ins q _) HMQ1.out.symm
end Go.Proofs.YtahbecinkciahaaGreat
/- Layer 30: Put and Run, at a state. -/
namespace Go.Proofs.YtahbecinkciahaaGreat
open Go.RowKit
set_option linter.unusedVariables false
set_option linter.unusedSimpArgs false
attribute [local go_sem ↓] run_min_plain run_max_plain
attribute [local go_sem] setCell_drewN alloc_drewN
theorem jput_any (le mo nw : Int) (on : Bool) (ze fi hi dn sp tr : Int) (A : Option Addr) (l : List TW) (n qc : Nat) (la tw pd : Int) (now : Int) (sq ti : Int) (mk : Bool) (ty : Int) (MA : Option Addr) (mn mc : Nat) (pl : List Int) (w : World) (hn : l.length = n) (hmn : pl.length = mn) (hl : n ≤ 100000) (hm9 : mn ≤ 100000) (hcap : n ≤ qc) (hcm : qc ≤ maxLen) (hA : Wts w w.heap.size A l) (hK : ∀ a ∈ l, I64 a.w.m.sq) (hMI : IntsAt w w.heap.size .u8 MA pl) : Calls Tryz.prog 46 #[.agg #[.int .i64 le, .int .i64 mo, .int .i64 nw, .bool on, .int .i64 ze, .int .i64 fi, .int .i64 hi, .int .i64 dn, .int .i64 sp, .int .i64 tr, .slice A n qc, .int .i64 la, .int .i64 tw, .int .i64 pd], .int .i64 now, .agg #[.int .i64 sq, .int .i64 ti, .bool mk, .int .u8 ty, .slice MA mn mc]] w (JPutW ⟨le, mo, nw, on, ze, fi, hi, dn, sp, tr, l.map TW.w, la, tw, pd⟩ now ⟨sq, ti, mk, ty, pl⟩ w) := by
  by_cases hr0 : Jb.chk ⟨le, mo, nw, on, ze, fi, hi, dn, sp, tr, l.map TW.w, la, tw, pd⟩ now (decide (Jb.Md.ok ⟨sq, ti, mk, ty, pl⟩)) = 0
  rotate_left
  · exact jput_bad le mo nw on ze fi hi dn sp tr A l n qc la tw pd now sq ti mk ty MA mn mc pl w hn hmn hl hm9 hcap hcm hA hK hMI hr0
  cases hany : ((Jb.run0 ⟨le, mo, nw, on, ze, fi, hi, dn, sp, tr, l.map TW.w, la, tw, pd⟩ now).q.any fun w => w.m.sq == sq)
  rotate_left
  · exact jput_twice le mo nw on ze fi hi dn sp tr A l n qc la tw pd now sq ti mk ty MA mn mc pl w hn hmn hl hm9 hcap hcm hA hK hMI hr0 hany
  cases on
  · by_cases hfull : 200 ≤ (Jb.run0 ⟨le, mo, nw, false, ze, fi, hi, dn, sp, tr, l.map TW.w, la, tw, pd⟩ now).q.length
    · exact jput_full0 le mo nw ze fi hi dn sp tr A l n qc la tw pd now sq ti mk ty MA mn mc pl w hn hmn hl hm9 hcap hcm hA hK hMI hr0 hany hfull
    by_cases hla : (Jb.ptime (Jb.meas (Jb.run0 ⟨le, mo, nw, false, ze, fi, hi, dn, sp, tr, l.map TW.w, la, tw, pd⟩ now) (⟨sq, ti, mk, ty, pl⟩ : Jb.Md)) ti) ≤ now
    · exact jput_past0 le mo nw ze fi hi dn sp tr A l n qc la tw pd now sq ti mk ty MA mn mc pl w hn hmn hl hm9 hcap hcm hA hK hMI hr0 hany (Nat.lt_of_not_le hfull) hla
    by_cases hfar : now + 120000 < (Jb.ptime (Jb.meas (Jb.run0 ⟨le, mo, nw, false, ze, fi, hi, dn, sp, tr, l.map TW.w, la, tw, pd⟩ now) (⟨sq, ti, mk, ty, pl⟩ : Jb.Md)) ti)
    · exact jput_far0 le mo nw ze fi hi dn sp tr A l n qc la tw pd now sq ti mk ty MA mn mc pl w hn hmn hl hm9 hcap hcm hA hK hMI hr0 hany (Nat.lt_of_not_le hfull) (Int.not_le.1 hla) hfar
    · exact jput_take0 le mo nw ze fi hi dn sp tr A l n qc la tw pd now sq ti mk ty MA mn mc pl w hn hmn hl hm9 hcap hcm hA hK hMI hr0 hany (Nat.lt_of_not_le hfull) (Int.not_le.1 hla) (Int.not_lt.1 hfar)
  by_cases hls : sq ≤ (Jb.run0 ⟨le, mo, nw, true, ze, fi, hi, dn, sp, tr, l.map TW.w, la, tw, pd⟩ now).done
  · exact jput_late le mo nw ze fi hi dn sp tr A l n qc la tw pd now sq ti mk ty MA mn mc pl w hn hmn hl hm9 hcap hcm hA hK hMI hr0 hany hls
  replace hls := Int.not_le.1 hls
  by_cases hfull : 200 ≤ (Jb.run0 ⟨le, mo, nw, true, ze, fi, hi, dn, sp, tr, l.map TW.w, la, tw, pd⟩ now).q.length
  · exact jput_full1 le mo nw ze fi hi dn sp tr A l n qc la tw pd now sq ti mk ty MA mn mc pl w hn hmn hl hm9 hcap hcm hA hK hMI hr0 hany hls hfull
  by_cases hla : (Jb.ptime (Jb.meas (Jb.run0 ⟨le, mo, nw, true, ze, fi, hi, dn, sp, tr, l.map TW.w, la, tw, pd⟩ now) (⟨sq, ti, mk, ty, pl⟩ : Jb.Md)) ti) ≤ now
  · exact jput_past1 le mo nw ze fi hi dn sp tr A l n qc la tw pd now sq ti mk ty MA mn mc pl w hn hmn hl hm9 hcap hcm hA hK hMI hr0 hany hls (Nat.lt_of_not_le hfull) hla
  by_cases hfar : now + 120000 < (Jb.ptime (Jb.meas (Jb.run0 ⟨le, mo, nw, true, ze, fi, hi, dn, sp, tr, l.map TW.w, la, tw, pd⟩ now) (⟨sq, ti, mk, ty, pl⟩ : Jb.Md)) ti)
  · exact jput_far1 le mo nw ze fi hi dn sp tr A l n qc la tw pd now sq ti mk ty MA mn mc pl w hn hmn hl hm9 hcap hcm hA hK hMI hr0 hany hls (Nat.lt_of_not_le hfull) (Int.not_le.1 hla) hfar
  · exact jput_take1 le mo nw ze fi hi dn sp tr A l n qc la tw pd now sq ti mk ty MA mn mc pl w hn hmn hl hm9 hcap hcm hA hK hMI hr0 hany hls (Nat.lt_of_not_le hfull) (Int.not_le.1 hla) (Int.not_lt.1 hfar)
theorem jput_stW (s : Jb.Jt) (A : Option Addr) (l : List TW) (n c : Nat) (now : Int) (m : Jb.Md) (MA : Option Addr) (mn mc : Nat) (w : World) (hq : l.map TW.w = s.q) (hn : l.length = n) (hl : n ≤ 100000) (hcap : n ≤ c) (hcm : c ≤ maxLen) (hA : Wts w w.heap.size A l) (hK : ∀ a ∈ l, I64 a.w.m.sq) (hmn : m.pl.length = mn) (hm9 : mn ≤ 100000) (hMI : IntsAt w w.heap.size .u8 MA m.pl) : Calls Tryz.prog 46 #[.agg #[.int .i64 s.least, .int .i64 s.most, .int .i64 s.now, .bool s.on, .int .i64 s.zero, .int .i64 s.first, .int .i64 s.high, .int .i64 s.done, .int .i64 s.spread, .int .i64 s.trans, .slice A n c, .int .i64 s.late, .int .i64 s.twice, .int .i64 s.played], .int .i64 now, .agg #[.int .i64 m.sq, .int .i64 m.ti, .bool m.mrk, .int .u8 m.ty, .slice MA mn mc]] w (JPutW s now m w) := by
  obtain ⟨le, mo, nw, on, ze, fi, hi, dn, sp, tr, q, la, tw, pd⟩ := s
  obtain ⟨sq, ti, mk, ty, pl⟩ := m
  simp only at hq hmn hMI ⊢
  subst hq
  exact jput_any le mo nw on ze fi hi dn sp tr A l n c la tw pd now sq ti mk ty MA mn mc pl w hn hmn hl hm9 hcap hcm hA hK hMI
theorem jrun_stW (s : Jb.Jt) (A : Option Addr) (l : List TW) (n c : Nat) (now : Int) (w : World) (hq : l.map TW.w = s.q) (hn : l.length = n) (hl : n ≤ 100000) (hcap : n ≤ c) (hcm : c ≤ maxLen) (hA : Wts w w.heap.size A l) (hK : ∀ a ∈ l, I64 a.w.m.sq) : Calls Tryz.prog 95 #[.agg #[.int .i64 s.least, .int .i64 s.most, .int .i64 s.now, .bool s.on, .int .i64 s.zero, .int .i64 s.first, .int .i64 s.high, .int .i64 s.done, .int .i64 s.spread, .int .i64 s.trans, .slice A n c, .int .i64 s.late, .int .i64 s.twice, .int .i64 s.played], .int .i64 now] w (JRunW s now w) := by
  obtain ⟨le, mo, nw, on, ze, fi, hi, dn, sp, tr, q, la, tw, pd⟩ := s
  simp only at hq ⊢
  subst hq
  exact jrun_let le mo nw on ze fi hi dn sp tr A l n c la tw pd now w hn hl hcap hcm hA hK
theorem valid_st (s : Jb.Jt) (A : Option Addr) (l : List TW) (n c : Nat) (w : World) (hq : l.map TW.w = s.q) (hn : l.length = n) (hl : n ≤ 100000) (hA : Wts w w.heap.size A l) (hK : ∀ a ∈ l, I64 a.w.m.sq) (v : Bool) (hv : v = Jb.valid s) : Calls Tryz.prog 65 #[.agg #[.int .i64 s.least, .int .i64 s.most, .int .i64 s.now, .bool s.on, .int .i64 s.zero, .int .i64 s.first, .int .i64 s.high, .int .i64 s.done, .int .i64 s.spread, .int .i64 s.trans, .slice A n c, .int .i64 s.late, .int .i64 s.twice, .int .i64 s.played]] w fun e w' => e = .returned (.bool v) ∧ Below w.heap.size w w' := by
  obtain ⟨le, mo, nw, on, ze, fi, hi, dn, sp, tr, q, la, tw, pd⟩ := s
  simp only at hq ⊢
  subst hq
  exact valid_any le mo nw on ze fi hi dn sp tr A l n c la tw pd w hn hl hA hK v hv
end Go.Proofs.YtahbecinkciahaaGreat
/- Layer 30: New; PlayTime of the program. -/
namespace Go.Proofs.YtahbecinkciahaaGreat
open Go.RowKit
set_option linter.unusedVariables false
set_option linter.unusedSimpArgs false
attribute [local go_sem ↓] run_min_plain run_max_plain
attribute [local go_sem] setCell_drewN alloc_drewN
/-- what New leaves -/
def NewR (l m : Int) (w : World) (e : Ending) (w' : World) : Prop := e = .returned (.tuple #[JV (Jb.new l m).1 none 0 0, .int .u8 (Jb.new l m).2]) ∧ Below w.heap.size w w'
set_option maxRecDepth 100000 in
set_option maxHeartbeats 12800000 in
theorem new_any (l m : Int) (w : World) : Calls Tryz.prog 62 #[.agg #[.int .i64 l, .int .i64 m]] w (NewR l m w) := by
  obtain ⟨cv, hcv⟩ : ∃ cv, cv = decide (Jb.cfg l m) := ⟨_, rfl⟩
  have k1 := Lib.hid fun W => config_any l m W cv hcv
  have HC := Lib.hid hcv
  clear hcv
  have U0 := Lib.hid (((Bel.refl w).push (.cells #[.int .i64 l, .int .i64 m] 37)).push (.cells #[.int .i64 0, .int .i64 0, .int .i64 0, .bool false, .int .i64 0, .int .i64 0, .int .i64 0, .int .i64 0, .int .i64 0, .int .i64 0, .slice none 0 0, .int .i64 0, .int .i64 0, .int .i64 0] 40))
  have BC := Lib.hid ((Blk.new w 37 #[.int .i64 l, .int .i64 m]).push (.cells #[.int .i64 0, .int .i64 0, .int .i64 0, .bool false, .int .i64 0, .int .i64 0, .int .i64 0, .int .i64 0, .int .i64 0, .int .i64 0, .slice none 0 0, .int .i64 0, .int .i64 0, .int .i64 0] 40))
  have BR := Lib.hid (Blk.new1 w (.cells #[.int .i64 l, .int .i64 m] 37) 40 #[.int .i64 0, .int .i64 0, .int .i64 0, .bool false, .int .i64 0, .int .i64 0, .int .i64 0, .int .i64 0, .int .i64 0, .int .i64 0, .slice none 0 0, .int .i64 0, .int .i64 0, .int .i64 0])
  cases cv
  · go_enter Tryz.func62, Tryz.ntmps62
    go_wp2_with fail
    refine (k1.out _).mono ?_
    rintro e w1 ⟨rfl, hb1⟩
    have U1 := Lib.hid (U0.out.later hb1)
    have BC1 := Lib.hid (BC.out.later hb1)
    have BR1 := Lib.hid (BR.out.later hb1)
    clear hb1
    have c0 := (BC1.out).at 0 _ rfl
    have c1 := (BC1.out).at 1 _ rfl
    have r0 := (BR1.out).at 0 _ rfl
    have r1 := (BR1.out).at 1 _ rfl
    have r2 := (BR1.out).at 2 _ rfl
    have r3 := (BR1.out).at 3 _ rfl
    have r4 := (BR1.out).at 4 _ rfl
    have r5 := (BR1.out).at 5 _ rfl
    have r6 := (BR1.out).at 6 _ rfl
    have r7 := (BR1.out).at 7 _ rfl
    have r8 := (BR1.out).at 8 _ rfl
    have r9 := (BR1.out).at 9 _ rfl
    have r10 := (BR1.out).at 10 _ rfl
    have r11 := (BR1.out).at 11 _ rfl
    have r12 := (BR1.out).at 12 _ rfl
    have r13 := (BR1.out).at 13 _ rfl
    have rfz := BR1.out.frozen
    have hs1 := BR1.out.lt
    go_wp2_with fail
    have BF := Blk.setRow BR1.out [.int .i64 0, .int .i64 0, .int .i64 0, .bool false, .int .i64 0, .int .i64 0, .int .i64 0, .int .i64 0, .int .i64 0, .int .i64 0, .slice none 0 0, .int .i64 0, .int .i64 0, .int .i64 0] rfl
    have UF := below_setRow (g := w.heap.size + 1) (by omega) [.int .i64 0, .int .i64 0, .int .i64 0, .bool false, .int .i64 0, .int .i64 0, .int .i64 0, .int .i64 0, .int .i64 0, .int .i64 0, .slice none 0 0, .int .i64 0, .int .i64 0, .int .i64 0] _ 0 U1.out
    simp only [setRow, Nat.zero_add, Nat.reduceAdd] at BF UF
    have hn : Jb.new l m = (Jb.Jt.none, 3) := by unfold Jb.new; exact if_neg (by have h9 := HC.out; rw [eq_comm, decide_eq_false_iff_not] at h9; exact h9)
    exact bodyPost_ret (v := .tuple #[.agg (List.toArray [.int .i64 0, .int .i64 0, .int .i64 0, .bool false, .int .i64 0, .int .i64 0, .int .i64 0, .int .i64 0, .int .i64 0, .int .i64 0, .slice none 0 0, .int .i64 0, .int .i64 0, .int .i64 0]), .int .u8 3]) (res_ct Tryz.results62 rfl (run_loadVar_row (P := Tryz.prog) _ _ _ _ _ _ _ BF Tryz.underlying40 rfl (by kernel_rfl)) rfl) rfl ⟨by rw [hn]; rfl, UF⟩
  · go_enter Tryz.func62, Tryz.ntmps62
    go_wp2_with fail
    refine (k1.out _).mono ?_
    rintro e w1 ⟨rfl, hb1⟩
    have U1 := Lib.hid (U0.out.later hb1)
    have BC1 := Lib.hid (BC.out.later hb1)
    have BR1 := Lib.hid (BR.out.later hb1)
    clear hb1
    have c0 := (BC1.out).at 0 _ rfl
    have c1 := (BC1.out).at 1 _ rfl
    have r0 := (BR1.out).at 0 _ rfl
    have r1 := (BR1.out).at 1 _ rfl
    have r2 := (BR1.out).at 2 _ rfl
    have r3 := (BR1.out).at 3 _ rfl
    have r4 := (BR1.out).at 4 _ rfl
    have r5 := (BR1.out).at 5 _ rfl
    have r6 := (BR1.out).at 6 _ rfl
    have r7 := (BR1.out).at 7 _ rfl
    have r8 := (BR1.out).at 8 _ rfl
    have r9 := (BR1.out).at 9 _ rfl
    have r10 := (BR1.out).at 10 _ rfl
    have r11 := (BR1.out).at 11 _ rfl
    have r12 := (BR1.out).at 12 _ rfl
    have r13 := (BR1.out).at 13 _ rfl
    have rfz := BR1.out.frozen
    have hs1 := BR1.out.lt
    go_wp2_with fail
    have BF := Blk.setRow BR1.out [.int .i64 l, .int .i64 m, .int .i64 0, .bool false, .int .i64 0, .int .i64 0, .int .i64 (-1), .int .i64 (-1), .int .i64 0, .int .i64 0, .slice none 0 0, .int .i64 0, .int .i64 0, .int .i64 0] rfl
    have UF := below_setRow (g := w.heap.size + 1) (by omega) [.int .i64 l, .int .i64 m, .int .i64 0, .bool false, .int .i64 0, .int .i64 0, .int .i64 (-1), .int .i64 (-1), .int .i64 0, .int .i64 0, .slice none 0 0, .int .i64 0, .int .i64 0, .int .i64 0] _ 0 U1.out
    simp only [setRow, Nat.zero_add, Nat.reduceAdd] at BF UF
    have hn : Jb.new l m = (⟨l, m, 0, false, 0, 0, -1, -1, 0, 0, [], 0, 0, 0⟩, 0) := by unfold Jb.new; exact if_pos (by have h9 := HC.out; rw [eq_comm, decide_eq_true_iff] at h9; exact h9)
    exact bodyPost_ret (v := .tuple #[.agg (List.toArray [.int .i64 l, .int .i64 m, .int .i64 0, .bool false, .int .i64 0, .int .i64 0, .int .i64 (-1), .int .i64 (-1), .int .i64 0, .int .i64 0, .slice none 0 0, .int .i64 0, .int .i64 0, .int .i64 0]), .int .u8 0]) (res_ct Tryz.results62 rfl (run_loadVar_row (P := Tryz.prog) _ _ _ _ _ _ _ BF Tryz.underlying40 rfl (by kernel_rfl)) rfl) rfl ⟨by rw [hn]; rfl, UF⟩
end Go.Proofs.YtahbecinkciahaaGreat
/- Layer 32: Valid. -/
namespace Go.Proofs.YtahbecinkciahaaGreat
open Go.RowKit
set_option linter.unusedVariables false
set_option linter.unusedSimpArgs false
attribute [local go_sem ↓] run_min_plain run_max_plain
attribute [local go_sem] setCell_drewN alloc_drewN
theorem Valid_bel (v i : Int) (w : World) : Calls Tryz.prog 64 #[.agg #[.int .i64 v, .int .i64 i]] w fun e w' => e = .returned (.bool (Dlt.valid v i)) ∧ Below w.heap.size w w' := by
  refine (Valid_any v i w).mono ?_
  rintro e w' ⟨rfl, rfl⟩
  exact ⟨rfl, (Below.refl _ _).alloc (Nat.le_refl _) _⟩
theorem rel2 (s : Ev.Snd) : ((Ev.release s).2 == 2) = !s.valid := by
  unfold Ev.release
  cases s.valid
  · rfl
  · cases s.on <;> rfl
theorem valid_rest {p : Sb.Pt} (h1 : true = speechB p.codec) (h2 : true = Dlt.valid p.cv p.ci) (h3 : true = Jb.valid p.jt) (h4 : true = p.tn.valid) : p.valid = decide p.near := by
  unfold Sb.Pt.valid
  rw [← h1, ← h2, ← h3, ← h4]; rfl
set_option maxRecDepth 100000 in
set_option maxHeartbeats 12800000 in
theorem pvalid_any (p : Sb.Pt) (hw : p.wf) (A : Option Addr) (l : List TW) (n c : Nat) (X : Array Value) (hX : X = PA p A n c) (w : World) (hq : l.map TW.w = p.jt.q) (hn : l.length = n) (hl : n ≤ 100000) (hA : Wts w w.heap.size A l) (hK : ∀ a ∈ l, I64 a.w.m.sq) (v : Bool) (hv : v = p.valid) : Calls Tryz.prog 21 #[.agg X] w fun e w' => e = .returned (.bool v) ∧ Below w.heap.size w w' := by
  have PB0 := Lib.hid (PB.new w X hX)
  have U0 := Lib.hid ((Bel.refl w).push (.cells X 48))
  have HA := Lib.hid (hA.push (.cells X 48))
  have HV := Lib.hid hv
  obtain ⟨v1, hv1⟩ : ∃ v, v = speechB p.codec := ⟨_, rfl⟩
  obtain ⟨v2, hv2⟩ : ∃ v, v = Dlt.valid p.cv p.ci := ⟨_, rfl⟩
  obtain ⟨v3, hv3⟩ : ∃ v, v = Jb.valid p.jt := ⟨_, rfl⟩
  obtain ⟨v4, hv4⟩ : ∃ v, v = p.tn.valid := ⟨_, rfl⟩
  have k1 := Lib.hid fun W => speech_any p.codec W hw.codec.1 hw.codec.2
  have k2 := Lib.hid fun W => Valid_bel p.cv p.ci W
  have k3 := Lib.hid fun (W : World) hW => valid_st p.jt A l n c W hq hn hl hW hK v3 hv3
  have k4 : ∀ W, Calls Tryz.prog 66 #[.agg #[.bool p.tn.on, .int .u8 p.tn.code, .int .u8 p.tn.vol, .int .u32 p.tn.start, .int .i64 p.tn.len, .int .i64 p.tn.ends]] W fun e w' => e = .returned (.tuple #[.agg (Ev.release p.tn).1.row, .int .u8 (Ev.release p.tn).2]) ∧ Below W.heap.size W w' := fun W => Release_any p.tn.on p.tn.code p.tn.vol p.tn.start p.tn.len p.tn.ends W
  have h4 := rel2 p.tn
  rw [← hv4] at h4
  generalize (Ev.release p.tn).1 = s4 at k4
  generalize (Ev.release p.tn).2 = r4 at k4 h4
  simp only [Ev.Snd.row] at k4
  replace k4 := Lib.hid k4
  have HR := Lib.hid (fun h1 h2 h3 h4 => @valid_rest p h1 h2 h3 h4)
  rw [← hv1] at k1
  rw [← hv2] at k2
  have H1 := Lib.hid hv1
  have H2 := Lib.hid hv2
  have H3 := Lib.hid hv3
  have H5 := Lib.hid hv4
  clear hX hA hv hK hq hv1 hv2 hv3 hv4
  go_enter Tryz.func21, Tryz.ntmps21
  go_upto_region 1 with fail
  obtain ⟨W, hW⟩ : ∃ W, W = w.alloc (Obj.cells X 48) := ⟨_, rfl⟩
  rw [← hW] at PB0 U0 HA ⊢
  clear hW
  obtain ⟨g, hg⟩ : ∃ g, g = w.heap.size := ⟨_, rfl⟩
  rw [← hg] at PB0 ⊢
  clear hg
  have c0 := PB0.out.cell 0 _ rfl
  go_wp2_with fail
  refine (k1.out _).mono ?_
  rintro e w1 ⟨rfl, hb1⟩
  replace U0 := Lib.hid (U0.out.later hb1)
  replace PB0 := Lib.hid (PB0.out.later hb1)
  replace HA := Lib.hid (HA.out.later hb1)
  clear hb1 c0
  cases v1
  · obtain rfl : v = false := by rw [HV.out]; unfold Sb.Pt.valid; rw [← H1.out]; rfl
    go_wp2_with fail
    go_ret
    exact ⟨rfl, U0.out⟩
  obtain ⟨x6, x7⟩ := PB0.out.cd
  go_wp2_with fail
  refine (k2.out _).mono ?_
  rintro e w2 ⟨rfl, hb1⟩
  replace U0 := Lib.hid (U0.out.later hb1)
  replace PB0 := Lib.hid (PB0.out.later hb1)
  replace HA := Lib.hid (HA.out.later hb1)
  clear hb1 x6 x7
  cases v2
  · obtain rfl : v = false := by rw [HV.out]; unfold Sb.Pt.valid; rw [← H2.out]; simp
    go_wp2_with fail
    go_ret
    exact ⟨rfl, U0.out⟩
  obtain ⟨x14, x15, x16, x17, x18, x19, x20, x21, x22, x23, x24, x25, x26, x27⟩ := PB0.out.jt
  go_wp2_with fail
  refine (k3.out _ HA.out).mono ?_
  rintro e w3 ⟨rfl, hb1⟩
  replace U0 := Lib.hid (U0.out.later hb1)
  replace PB0 := Lib.hid (PB0.out.later hb1)
  clear hb1 HA x14 x15 x16 x17 x18 x19 x20 x21 x22 x23 x24 x25 x26 x27
  cases v3
  · obtain rfl : v = false := by rw [HV.out]; unfold Sb.Pt.valid; rw [← H3.out]; simp
    go_wp2_with fail
    go_ret
    exact ⟨rfl, U0.out⟩
  obtain ⟨x8, x9, x10, x11, x12, x13⟩ := PB0.out.tn
  go_wp2_with fail
  refine (k4.out _).mono ?_
  rintro e w4 ⟨rfl, hb1⟩
  replace U0 := Lib.hid (U0.out.later hb1)
  replace PB0 := Lib.hid (PB0.out.later hb1)
  clear hb1 x8 x9 x10 x11 x12 x13
  cases v4
  · obtain rfl : v = false := by rw [HV.out]; unfold Sb.Pt.valid; rw [← H5.out]; simp
    replace h4 : (r4 == 2) = true := h4
    go_wp2_with fail
    go_ret
    exact ⟨rfl, U0.out.push _⟩
  replace h4 : (r4 == 2) = false := h4
  have HV2 : Hid (v = decide p.near) := Lib.hid (by rw [HV.out]; exact HR.out H1.out H2.out H3.out H5.out)
  obtain ⟨x28, x29, x30⟩ := PB0.out.tk
  have x31 := PB0.out.cell 31 _ rfl
  have hlt := Blk.lt PB0.out
  go_upto_region 7 with fail
  by_cases t0 : 0 ≤ p.tk.high
  rotate_left
  · obtain rfl : v = false := by rw [HV2.out, decide_eq_false_iff_not]; unfold Sb.Pt.near; omega
    have d0 : decide (0 ≤ p.tk.high) = false := decide_eq_false t0
    replace t0 := Int.not_le.1 t0
    go_wp2_with fail
    go_ret
    exact ⟨rfl, (U0.out.push _).push _⟩
  by_cases t1 : p.tk.high ≤ 140737488355328
  rotate_left
  · obtain rfl : v = false := by rw [HV2.out, decide_eq_false_iff_not]; unfold Sb.Pt.near; omega
    have d1 : decide (p.tk.high ≤ 140737488355328) = false := decide_eq_false t1
    replace t1 := Int.not_le.1 t1
    go_wp2_with fail
    go_ret
    exact ⟨rfl, (U0.out.push _).push _⟩
  by_cases t2 : -1 ≤ p.tk.jump
  rotate_left
  · obtain rfl : v = false := by rw [HV2.out, decide_eq_false_iff_not]; unfold Sb.Pt.near; omega
    have d2 : decide (-1 ≤ p.tk.jump) = false := decide_eq_false t2
    replace t2 := Int.not_le.1 t2
    go_wp2_with fail
    go_ret
    exact ⟨rfl, (U0.out.push _).push _⟩
  by_cases t3 : p.tk.jump ≤ 65535
  rotate_left
  · obtain rfl : v = false := by rw [HV2.out, decide_eq_false_iff_not]; unfold Sb.Pt.near; omega
    have d3 : decide (p.tk.jump ≤ 65535) = false := decide_eq_false t3
    replace t3 := Int.not_le.1 t3
    go_wp2_with fail
    go_ret
    exact ⟨rfl, (U0.out.push _).push _⟩
  by_cases t4 : -140737488355328 ≤ p.ht
  rotate_left
  · obtain rfl : v = false := by rw [HV2.out, decide_eq_false_iff_not]; unfold Sb.Pt.near; omega
    have d4 : decide (-140737488355328 ≤ p.ht) = false := decide_eq_false t4
    replace t4 := Int.not_le.1 t4
    go_wp2_with fail
    go_ret
    exact ⟨rfl, (U0.out.push _).push _⟩
  by_cases t5 : p.ht ≤ 140737488355328
  rotate_left
  · obtain rfl : v = false := by rw [HV2.out, decide_eq_false_iff_not]; unfold Sb.Pt.near; omega
    have d5 : decide (p.ht ≤ 140737488355328) = false := decide_eq_false t5
    replace t5 := Int.not_le.1 t5
    go_wp2_with fail
    go_ret
    exact ⟨rfl, (U0.out.push _).push _⟩
  obtain rfl : v = true := by rw [HV2.out, decide_eq_true_iff]; unfold Sb.Pt.near; omega
  go_wp2_with fail
  go_ret
  exact ⟨rfl, (U0.out.push _).push _⟩
end Go.Proofs.YtahbecinkciahaaGreat
/- A struct is loaded out of a partS of a block inside a region that draws its order. -/
namespace Go.Proofs.YtahbecinkciahaaGreat
open Go.RowKit
set_option linter.unusedVariables false
set_option linter.unusedSimpArgs false
/-- such a load inside a region that draws: it yields in every world that meets S -/
theorem yif_load_part {P : Program} {ops : Array Oper} {o : Oper} {a : Act} {S : World → Prop} (hgd : o.guard = none) (ty : TypeId) (x : Operand) (ho : o.op = .load ty x) (g i : Nat) (hx : a.eval x = .pointer (some ⟨g, i, none⟩)) (t : TypeId) (cs : List Value) (hg : ∀ w, S w → Blk w g t cs.toArray) (n : Nat) (d : TypeDesc) (hu : P.underlying ty = some d) (hi : (P.info? ty).map (·.size) = some n) (hn : i + n ≤ cs.length) (vs : Array Value) (hv : (partS cs i n).toArray = vs) (hd : aggT d = true) : YieldsIf P ops S o (.agg vs) a := by
  subst hv
  refine Or.inl ⟨by simp [Region.wanted, hgd], fun w hS => ?_⟩
  unfold execOp
  simp only [ho, hx, Instr.loadAt, Instr.sureAddr, Sem.run_bind, Sem.run_pure, Result.andThen_ok, run_loadVar_part (hg w hS) i n hd hu hi hn]
/-- a struct is stored into a partS of a block, as a step of a region that draws -/
theorem step_store_part {P : Program} {ops : Array Oper} {o : Oper} {a : Act} {w : World} {K : Act → World → Prop} {Q : Exit → Act → World → Prop} {E : Prop} (hgd : o.guard = none) (ty : TypeId) (x y : Operand) (ho : o.op = .store ty x y) (g i : Nat) (hx : a.eval x = .pointer (some ⟨g, i, none⟩)) (t : TypeId) (cs : List Value) (hg : Blk w g t cs.toArray) (vs : List Value) (hy : a.eval y = .agg vs.toArray) (hi : (P.info? ty).map (·.size) = some vs.length) (hn : i + vs.length ≤ cs.length) (h1 : vs.all (·.oneCell') = true) (cs' : List Value) (hc : overS cs i vs = cs')
    (h : ∀ W, Blk W g t cs'.toArray → OnlyB g w W → K (a.put o.dst undef) W) : if Region.wanted o (yielded ops a.tmps) = true then Oper.wp P o a w K Q else E := by
  subst hc
  rw [if_pos (by simp [Region.wanted, hgd])]
  unfold Oper.wp execOp
  simp only [ho, hx, hy, Instr.storeAt, Instr.sureAddr, Sem.run_bind, Sem.run_pure, Result.andThen_ok, run_storeVar_part hg i vs hi hn h1]
  unfold Oper.upon
  exact h _ (setRow_heap w g _ _ t _ hg) (OnlyB.setRow w g _)
theorem Blk.dr {W : World} {g : Nat} {t : TypeId} {cs : Array Value} (h : Blk W g t cs) : Blk W.drew g t cs := h
end Go.Proofs.YtahbecinkciahaaGreat
/- Layer 29: Silence of the program and of the reference. -/
namespace Go.Proofs.YtahbecinkciahaaGreat
open Go.RowKit
set_option linter.unusedVariables false
set_option linter.unusedSimpArgs false
attribute [local go_sem ↓] run_min_plain run_max_plain
attribute [local go_sem] setCell_drewN alloc_drewN
section
variable (q : Int) (A : Option Addr) (zs : List Int) (cap : Nat) (w : World)
set_option maxRecDepth 100000 in
set_option maxHeartbeats 800000 in
theorem Silence_any (q0 : -9223372036854775808 ≤ q) (q1 : q ≤ 9223372036854775807) (hA : IntsAt w w.heap.size .i16 A zs) (hz : Within (-32768) 32767 zs) (hl : zs.length ≤ 8000) :
    Calls Tryz.prog 72 #[.agg #[.int .i64 q], .slice A zs.length cap] w fun e w' => e = .returned (.tuple #[.agg #[.int .i64 (Ev.quiet q zs)], .bool (Ev.quiet q zs == 10)]) ∧ Below w.heap.size w w' := by
  have k1 := Lib.hid fun W h => Level_any A zs cap W h hz hl
  obtain ⟨R, hR⟩ : ∃ R, R = Ev.quiet q zs := ⟨_, rfl⟩
  rw [← hR]
  unfold Ev.quiet at hR
  have hb := Ev.lev_bd zs hz
  have IA := Lib.hid ((hA.push (.cells #[.int .i64 q] 33)).push (.cells #[.int .i64 0] 33))
  generalize Ev.lev zs = L at *
  clear hz hA
  by_cases hL : L < 60
  · rw [if_pos hL] at hR
    subst hR
    go_enter Tryz.func72, Tryz.ntmps72
    go_wp2_with (go_at_call 75; refine (k1.out _ IA.out).mono ?_; rintro e w1 ⟨rfl, rfl⟩)
    refine bodyPost_ret (v := .tuple #[.agg #[.int .i64 0], .bool ((0 : Int) == 10)]) (by simp [results, Tryz.results72, go_sem]) rfl ⟨rfl, ?_⟩
    repeat (first | exact Below.refl _ _ | refine Below.drew ?_ | refine Below.setCell ?_ (by simp) _ | refine Below.alloc ?_ (by simp; try omega) _)
  · rw [if_neg hL] at hR
    have hL' : decide (L < 60) = false := by simpa using hL
    have HR := Lib.hid hR
    clear hR hL
    go_enter Tryz.func72, Tryz.ntmps72
    go_wp2_with (go_at_call 75; refine (k1.out _ IA.out).mono ?_; rintro e w1 ⟨rfl, rfl⟩)
    refine bodyPost_ret (v := .tuple #[.agg #[.int .i64 R], .bool (R == 10)]) (by rw [HR.out]; simp [results, Tryz.results72, go_sem]) rfl ⟨rfl, ?_⟩
    repeat (first | exact Below.refl _ _ | refine Below.drew ?_ | refine Below.setCell ?_ (by simp) _ | refine Below.alloc ?_ (by simp; try omega) _)
end
end Go.Proofs.YtahbecinkciahaaGreat
/- Layer 32: what Send leaves. -/
namespace Go.Proofs.YtahbecinkciahaaGreat
open Go.RowKit
set_option linter.unusedVariables false
set_option linter.unusedSimpArgs false
attribute [local go_sem ↓] run_min_plain run_max_plain
attribute [local go_sem] setCell_drewN alloc_drewN
/-- a packet in memory -/
structure TK where
  k : Sb.Pkt
  B : Option Addr
  c : Nat
def TK.row (a : TK) : List Value := pktRow a.k a.B a.c
def Pks (w : World) (n : Nat) (A : Option Addr) (l : List TK) : Prop := RowsAt w n 11 TK.row A l ∧ ∀ a ∈ l, IntsAt w n .u8 a.B a.k.pl
theorem Pks.nil {w : World} {n : Nat} {A : Option Addr} : Pks w n A [] := ⟨fun h => absurd h (by simp), fun _ h => by cases h⟩
theorem Pks.keep {w w' : World} {n : Nat} {A : Option Addr} {l : List TK} (h : Pks w n A l) (hk : ∀ p : Addr, p.block < n → w'.cell? p = w.cell? p) : Pks w' n A l := ⟨h.1.keep hk, fun a ha => (h.2 a ha).keep hk⟩
theorem Pks.more {w : World} {n m : Nat} {A : Option Addr} {l : List TK} (h : Pks w n A l) (hm : n ≤ m) : Pks w m A l := ⟨h.1.more hm, fun a ha => (h.2 a ha).more hm⟩
theorem Pks.later {w w' : World} {A : Option Addr} {l : List TK} (h : Pks w w.heap.size A l) (hb : Below w.heap.size w w') : Pks w' w'.heap.size A l := (h.keep fun _ hp => hb.cell hp).more hb.size
theorem Pks.one {w : World} {base bc c : Nat} {A B : Option Addr} {k : Sb.Pkt} {pl : List Int} (ho : Owns w base 51 11 A 1 c (pktRow k B bc)) (hp : IntsAt w w.heap.size .u8 B pl) (hk : k.pl = pl) : Pks w w.heap.size A [⟨k, B, bc⟩] := by
  refine ⟨Owns.rows (l := [(⟨k, B, bc⟩ : TK)]) (row := TK.row) (by simpa [TK.row] using ho) rfl (fun a => rfl), fun a ha => ?_⟩
  obtain rfl := List.mem_singleton.1 ha
  show IntsAt w w.heap.size .u8 B k.pl
  rw [hk]; exact hp
/-- the region number i of a body -/
def findRegS (i : Nat) : Code → Option Code
  | .region j ops d => if i = j then some (.region j ops d) else none
  | .seq a b => match findRegS i a with
    | some c => some c
    | none => findRegS i b
  | .cond _ a b => match findRegS i a with
    | some c => some c
    | none => findRegS i b
  | .block _ c => findRegS i c
  | .loop c => findRegS i c
  | .scope c => findRegS i c
  | _ => none
theorem field_codec (g : Nat) (w : World) : (Instr.field 97 (.agg #[.func (.func 136) #[] #[.pointer (some ⟨g, 0, none⟩)], .func (.func 138) #[] #[.pointer (some ⟨g, 0, none⟩)]]) 0).run Tryz.prog w = .ok (.func (.func 136) #[] #[.pointer (some ⟨g, 0, none⟩)]) w := by kernel_rfl
/-- the packets lie in blocks from n on -/
def PksN (n : Nat) (A : Option Addr) (l : List TK) : Prop := (0 < l.length → ∀ b off, A = some ⟨b, off, none⟩ → n ≤ b) ∧ ∀ a ∈ l, 0 < a.k.pl.length → ∀ b off, a.B = some ⟨b, off, none⟩ → n ≤ b
theorem PksN.nil {n : Nat} {A : Option Addr} : PksN n A [] := ⟨fun h => absurd h (by simp), fun _ h => by cases h⟩
theorem PksN.one {w : World} {n base bc c : Nat} {A B : Option Addr} {k : Sb.Pkt} {xs : List Value} (ho : Owns w base 51 11 A 1 c xs) (hb : n ≤ base) (hp : ∀ b off, B = some ⟨b, off, none⟩ → n ≤ b) : PksN n A [⟨k, B, bc⟩] := by
  refine ⟨fun _ b off e => ?_, fun a ha _ b off e => ?_⟩
  · have := (ho.block b (by rw [e]; rfl)).1
    omega
  · obtain rfl := List.mem_singleton.1 ha
    exact hp b off e
/-- what Send leaves -/
def SendR (R : Sb.Pt × List Sb.Pkt) (w : World) (e : Ending) (w' : World) : Prop :=
  ∃ (A' : Option Addr) (n' c' : Nat) (l' : List TW) (KA : Option Addr) (kc : Nat) (ks : List TK), e = .returned (.tuple #[.agg (PA R.1 A' n' c'), .slice KA ks.length kc, .int .u8 0]) ∧ ks.map TK.k = R.2 ∧ l'.map TW.w = R.1.jt.q ∧ l'.length = n' ∧ n' ≤ c' ∧ c' ≤ maxLen ∧ Wts w' w'.heap.size A' l' ∧ Pks w' w'.heap.size KA ks ∧ Below w.heap.size w w' ∧ PksN w.heap.size KA ks
theorem PM.drew {W : World} {S : List Nat} {g n c : Nat} {p : Sb.Pt} {A : Option Addr} {l : List TW} (h : PM W S g p A n c l) : PM W.drew S g p A n c l := ⟨h.box, h.q, h.len, h.cap, h.cm, ⟨h.qa.wts, h.qa.row, h.qa.pay⟩⟩
theorem QOwn.capm {w : World} {base n c : Nat} {A : Option Addr} {l : List TW} (h : QOwn w base A n c l) : n ≤ c ∧ c ≤ maxLen := ⟨h.own.cap, Owns.capm h.own⟩
end Go.Proofs.YtahbecinkciahaaGreat
/- Layer 32: checkTime. -/
namespace Go.Proofs.YtahbecinkciahaaGreat
open Go.RowKit
set_option linter.unusedVariables false
set_option linter.unusedSimpArgs false
attribute [local go_sem ↓] run_min_plain run_max_plain
attribute [local go_sem] setCell_drewN alloc_drewN
set_option maxRecDepth 100000 in
set_option maxHeartbeats 12800000 in
theorem checkTime_any (p : Sb.Pt) (hw : p.wf) (A : Option Addr) (l : List TW) (n c : Nat) (X : Array Value) (hX : X = PA p A n c) (w : World) (hq : l.map TW.w = p.jt.q) (hn : l.length = n) (hl : n ≤ 100000) (hA : Wts w w.heap.size A l) (hK : ∀ a ∈ l, I64 a.w.m.sq) (now : Int) : Calls Tryz.prog 38 #[.agg X, .int .i64 now] w fun e w' => e = .returned (.int .u8 (Sb.chkT p now)) ∧ Below w.heap.size w w' := by
  have PB0 := Lib.hid (PB.new w X hX)
  have U0 := Lib.hid ((Bel.refl w).push (.cells X 48))
  have HA := Lib.hid (hA.push (.cells X 48))
  obtain ⟨v, hv⟩ : ∃ v, v = p.valid := ⟨_, rfl⟩
  have k1 := Lib.hid fun (W : World) hW => pvalid_any p hw A l n c (PA p A n c) rfl W hq hn hl hW hK v hv
  obtain ⟨R, hR⟩ : ∃ R, R = Sb.chkT p now := ⟨_, rfl⟩
  rw [← hR]
  unfold Sb.chkT at hR
  rw [← hv] at hR
  have HR := Lib.hid hR
  clear hX hA hK hq hv hR
  go_enter Tryz.func38, Tryz.ntmps38
  go_upto_region 1 with fail
  obtain ⟨W, hW⟩ : ∃ W, W = w.alloc (Obj.cells X 48) := ⟨_, rfl⟩
  rw [← hW] at PB0 U0 HA ⊢
  clear hW
  obtain ⟨g, hg⟩ : ∃ g, g = w.heap.size := ⟨_, rfl⟩
  rw [← hg] at PB0 ⊢
  clear hg
  go_wp2_with (first | fail | (refine wpList_load_part rfl 48 (.tmp 2) rfl (g) 0 rfl 48 (PL p A n c) PB0.out 48 _ Tryz.underlying48 info_port (show 0 + 48 ≤ 48 by decide) (PA p A n c) (by rfl) rfl ?_))
  refine (k1.out _ HA.out).mono ?_
  rintro e w1 ⟨rfl, hb1⟩
  replace U0 := Lib.hid (U0.out.later hb1)
  replace PB0 := Lib.hid (PB0.out.later hb1)
  clear hb1
  have x16 := PB0.out.jt.2.2.1
  cases v
  · obtain rfl : R = 2 := by rw [HR.out]; simp
    go_wp2_with fail
    go_ret
    exact ⟨rfl, U0.out⟩
  by_cases h1 : 281474976710656 < now
  · obtain rfl : R = 2 := by rw [HR.out, if_pos (Or.inr h1)]
    go_wp2_with fail
    go_ret
    exact ⟨rfl, U0.out⟩
  have hno : ¬(true = false ∨ 281474976710656 < now) := fun h => h.elim (fun h => by cases h) h1
  by_cases h2 : now < p.jt.now
  · obtain rfl : R = 9 := by rw [HR.out, if_neg hno, if_pos h2]
    clear hno
    go_wp2_with fail
    go_ret
    exact ⟨rfl, U0.out⟩
  obtain rfl : R = 0 := by rw [HR.out, if_neg hno, if_neg h2]
  clear hno
  go_wp2_with fail
  go_ret
  exact ⟨rfl, U0.out⟩
end Go.Proofs.YtahbecinkciahaaGreat
/- Layer 32, the sounds of a list of packets, one after another; no program in sight. -/
namespace Go.Proofs.YtahbecinkciahaaGreat.Sb
open Go.RowKit
set_option linter.unusedVariables false
theorem sounds_snoc : ∀ (l : List Jb.Wt) (s : Int) (a : Jb.Wt), sounds s (l ++ [a]) = ((dec a.m.ty a.m.pl (sounds s l).1).2, (sounds s l).2 ++ [⟨a.at_, (dec a.m.ty a.m.pl (sounds s l).1).1, []⟩])
  | [], s, a => rfl
  | b :: l, s, a => by
    show ((sounds (dec b.m.ty b.m.pl s).2 (l ++ [a])).1, (⟨b.at_, (dec b.m.ty b.m.pl s).1, []⟩ : Sd) :: (sounds (dec b.m.ty b.m.pl s).2 (l ++ [a])).2) = _
    rw [sounds_snoc l (dec b.m.ty b.m.pl s).2 a]
    rfl
theorem take_snoc {α : Type} {l : List α} {k : Nat} {a : α} (h : l[k]? = some a) : l.take (k + 1) = l.take k ++ [a] := by
  rw [List.take_add_one, h]; rfl
/-- the seed is that of its type -/
theorem noise_seed (a s : Int) (h0 : 0 ≤ s) (h1 : s ≤ 4294967295) (n : Nat) : 0 ≤ Ev.seed s n ∧ Ev.seed s n ≤ 4294967295 := by
  induction n with
  | zero => exact ⟨h0, h1⟩
  | succ n ih => unfold Ev.seed; omega
end Go.Proofs.YtahbecinkciahaaGreat.Sb
/- Layer 32: what the closure of sounds does. -/
namespace Go.Proofs.YtahbecinkciahaaGreat
open Go.RowKit
set_option linter.unusedVariables false
set_option linter.unusedSimpArgs false
attribute [local go_sem ↓] run_min_plain run_max_plain
attribute [local go_sem] setCell_drewN alloc_drewN
theorem sb_infosd : (Tryz.prog.info? 86).map (fun i => (i.zero, i.size, i.bytes)) = some (some (.agg #[.int .i64 0, .slice none 0 0, .slice none 0 0]), 3, 56) := by kernel_rfl
/-- below base only block gl may have been written -/
structure Kept (base gl : Nat) (w w' : World) : Prop where
  os : w'.os = w.os
  tape : w'.tape = w.tape
  output : w'.output = w.output
  size : w.heap.size ≤ w'.heap.size
  block : ∀ k, k < base → k < w.heap.size → k ≠ gl → w'.heap[k]? = w.heap[k]?
theorem Kept.blk {base gl g : Nat} {w w' : World} {t : TypeId} {cs : Array Value} (h : Kept base gl w w') (hb : Blk w g t cs) (hg : g < base) (hne : g ≠ gl) : Blk w' g t cs := (h.block g hg hb.lt hne).trans hb
theorem Kept.bel {base gl : Nat} {w0 w w' : World} (h : Kept base gl w w') (hb : Bel w0 w) (hs : w0.heap.size ≤ base) (hg : w0.heap.size ≤ gl) : Bel w0 w' :=
  ⟨h.os.trans hb.os, h.tape.trans hb.tape, h.output.trans hb.output, Nat.le_trans hb.size h.size, fun k hk => (h.block k (by omega) (by have := hb.size; omega) (by omega)).trans (hb.block k hk)⟩
theorem SOwn.step2 {w wn : World} {base k c cn : Nat} {A An : Option Addr} {l : List TS} {a : TS} (h : SOwn w base A k c l) (hg : w.grownBy wn (ownB A))
    (hown : Owns wn base 86 3 An (k + 1) cn (l.flatMap TS.row ++ a.row)) (hat : ownB An = ownB A ∨ ∀ g, ownB An = some g → w.heap.size ≤ g) (hI : IntsAt w w.heap.size .i16 a.S a.s.zs)
    (hf : 0 < a.s.zs.length → ∀ b off, a.S = some ⟨b, off, none⟩ → some b ≠ ownB A ∧ base ≤ b) : SOwn wn base An (k + 1) cn (l ++ [a]) := by
  have s3 := hg.size
  have key : ∀ (x : TS), IntsAt w w.heap.size .i16 x.S x.s.zs → (0 < x.s.zs.length → ∀ b off, x.S = some ⟨b, off, none⟩ → some b ≠ ownB A) → IntsAt wn wn.heap.size .i16 x.S x.s.zs := by
    intro x hx hf h0
    obtain ⟨b, off, e, hlt, hc⟩ := hx h0
    exact ⟨b, off, e, by omega, fun i hi => hg.cell (hc i hi) (hf h0 b off e)⟩
  have low : ∀ (x : TS), IntsAt w w.heap.size .i16 x.S x.s.zs → 0 < x.s.zs.length → ∀ b off, x.S = some ⟨b, off, none⟩ → b < w.heap.size := by
    intro x hx h0 b off e
    obtain ⟨b', off', e', hlt, _⟩ := hx h0
    rw [e] at e'
    injection e' with e'
    injection e' with e1 _
    omega
  have all : ∀ x ∈ l ++ [a], IntsAt w w.heap.size .i16 x.S x.s.zs ∧ (0 < x.s.zs.length → ∀ b off, x.S = some ⟨b, off, none⟩ → some b ≠ ownB A ∧ base ≤ b) := by
    intro x hx
    rcases List.mem_append.1 hx with hx | hx
    · exact ⟨h.pay x hx, fun h0 b off e => ⟨h.far x hx h0 b off e, h.new x hx h0 b off e⟩⟩
    · obtain rfl := List.mem_singleton.1 hx
      exact ⟨hI, hf⟩
  refine ⟨by simp [h.len], by rw [List.flatMap_append]; simpa using hown, fun x hx => key x (all x hx).1 (fun h0 b off e => ((all x hx).2 h0 b off e).1), fun x hx h0 b off e => ?_, fun x hx h0 b off e => ((all x hx).2 h0 b off e).2⟩
  rcases hat with e2 | e2
  · rw [e2]; exact ((all x hx).2 h0 b off e).1
  · intro he
    have := low x (all x hx).1 h0 b off e
    have := e2 b he.symm
    omega
theorem SOwn.only {w w' : World} {g base n c : Nat} {A : Option Addr} {l : List TS} (h : SOwn w base A n c l) (ho : OnlyB g w w') (hg : g < base) : SOwn w' base A n c l :=
  ⟨h.len, ho.owns h.own hg, fun a ha h0 => by
    obtain ⟨b, off, e, hlt, hc⟩ := h.pay a ha h0
    have := h.new a ha h0 b off e
    exact ⟨b, off, e, by rw [ho.2]; exact hlt, fun i hi => (ho.cell (show b ≠ g by omega)).trans (hc i hi)⟩, h.far, h.new⟩
/-- what the closure leaves -/
def AddR (base gl : Nat) (k : Nat) (ls : List TS) (a : TS) (w : World) (e : Ending) (w' : World) : Prop :=
  e = .returned (.tuple #[]) ∧ ∃ (A' : Option Addr) (c' : Nat), Blk w' gl 54 #[.slice A' (k + 1) c'] ∧ SOwn w' base A' (k + 1) c' (ls ++ [a]) ∧ Kept base gl w w'
set_option maxRecDepth 100000 in
set_option maxHeartbeats 12800000 in
theorem add_any (base gl : Nat) (A : Option Addr) (k c : Nat) (ls : List TS) (at_ : Int) (S : Option Addr) (zs : List Int) (sc : Nat) (w : World) (HL : Blk w gl 54 #[.slice A k c]) (HO : SOwn w base A k c ls) (hk : k ≤ 100000) (hgl : gl < base) (hbs : base ≤ w.heap.size) (hI : IntsAt w w.heap.size .i16 S zs) (hf : 0 < zs.length → ∀ b off, S = some ⟨b, off, none⟩ → some b ≠ ownB A ∧ base ≤ b) : Calls Tryz.prog 111 #[.int .i64 at_, .slice S zs.length sc, .pointer (some ⟨gl, 0, none⟩)] w (AddR base gl k ls ⟨⟨at_, zs, []⟩, S, sc⟩ w) := by
  have HL := Lib.hid HL
  have HO := Lib.hid HO
  have HI := Lib.hid hI
  have HF := Lib.hid hf
  have HX := Lib.hid HO.out.own
  clear hI hf
  go_enter Tryz.func111, Tryz.ntmps111
  have l0 := HL.out.at 0 _ rfl
  have lz := HL.out.frozen 0
  have hlt := HL.out.lt
  have h5 : (k + 1) * 56 ≤ 140737488355328 := by omega
  have h6 : k + 1 ≤ maxLen := by unfold maxLen; omega
  have hAk : ∀ g, ownB A = some g → base ≤ g := fun g e => (HX.out.block g e).1
  go_wp2_with (at_builtin; go_loud (refine wpList_append_at (w0 := w) rfl _ _ 54 rfl base 86 3 56 _ Tryz.underlying54 sb_infosd rfl (by decide) A k c _ rfl HX.out [.int .i64 at_, .slice S zs.length sc, .slice none 0 0] rfl (by simp [Value.oneCell']) rfl h6 h5 hbs ?_); intro A9 c9 v1 hown hgr hat; have BY := HL.out.grown hgr (fun e => by have := hAk _ e.symm; omega); have y0 := BY.at 0 _ rfl; have yz := BY.frozen 0)
  obtain ⟨V1, hV1⟩ : ∃ W, W = v1.setCell ⟨gl, 0, none⟩ (.slice A9 (k + 1) c9) := ⟨_, rfl⟩
  rw [← hV1]
  have OV : OnlyB gl v1 V1 := by rw [hV1]; exact OnlyB.setCell _ _ _ _
  have BL := Lib.hid (show Blk V1 gl 54 #[.slice A9 (k + 1) c9] by rw [hV1]; exact BY.set_ 0 _)
  have HO2 := Lib.hid ((HO.out.step2 (a := ⟨⟨at_, zs, []⟩, S, sc⟩) hgr (by simpa [TS.row] using hown) hat HI.out HF.out).only OV hgl)
  have HK := Lib.hid (show Kept base gl w V1 from ⟨OV.1.os.trans hgr.os, OV.1.tape.trans hgr.tape, OV.1.output.trans hgr.output, Nat.le_trans hgr.size OV.1.size, fun j h1 h2 h3 => (OV.1.block j (by have := hgr.size; omega) (fun e => h3 (by injection e))).trans (hgr.block j h2 (fun e => by have := hAk _ e.symm; omega))⟩)
  clear hV1 OV BY y0 yz hown hgr hat l0 lz HL HO HX
  go_end0
  exact ⟨rfl, A9, c9, BL.out, HO2.out, HK.out⟩
end Go.Proofs.YtahbecinkciahaaGreat
/- Layer 32: decode. -/
namespace Go.Proofs.YtahbecinkciahaaGreat
open Go.RowKit
set_option linter.unusedVariables false
set_option linter.unusedSimpArgs false
attribute [local go_sem ↓] run_min_plain run_max_plain
attribute [local go_sem] setCell_drewN alloc_drewN
/-- what decode leaves -/
def DecodeR (d : List Int × Int) (w : World) (e : Ending) (w' : World) : Prop := ∃ (A' : Option Addr) (c' : Nat), e = .returned (.tuple #[.slice A' d.1.length c', .int .u32 d.2]) ∧ IntsNew w.heap.size w' .i16 A' d.1 ∧ Below w.heap.size w w'
theorem unp160 (bs : List Int) : (Dlt.unpR bs 160).1 = Sb.decS 96 bs ∧ ((Dlt.unpR bs 160).2.2.2 ≠ 0 → (Dlt.unpR bs 160).1 = []) := by
  have e : Sb.decS 96 bs = if Sb.Dlt.fits bs 160 then Dlt.unpackL bs 160 else [] := by unfold Sb.decS; rw [if_neg (by decide), if_neg (by decide), if_pos rfl]
  rw [e]
  unfold Dlt.unpR
  rw [if_neg (by decide), show (160 : Int).toNat = 160 from rfl]
  by_cases h1 : bs.length < 4 + (160 + 1) / 2
  · rw [if_pos h1, if_neg (fun h => by have := h.1; omega)]
    exact ⟨rfl, fun _ => rfl⟩
  rw [if_neg h1]
  by_cases h2 : Dlt.okB bs 160
  · rw [if_pos h2, if_pos (show Sb.Dlt.fits bs 160 from h2)]
    exact ⟨rfl, fun h => absurd rfl h⟩
  · rw [if_neg h2, if_neg (show ¬Sb.Dlt.fits bs 160 from h2)]
    exact ⟨rfl, fun _ => rfl⟩
set_option maxRecDepth 100000 in
set_option maxHeartbeats 12800000 in
theorem decode_n0 (A : Option Addr) (bs : List Int) (c : Nat) (seed : Int) (w : World) (hA : IntsAt w w.heap.size .u8 A bs) (hz : Within 0 255 bs) (h8 : bs.length ≤ 8000) (h1 : bs.length ≠ 1) : Calls Tryz.prog 112 #[.int .u8 13, .slice A bs.length c, .int .u32 seed] w (DecodeR ([], seed) w) := by
  have hl1 : ¬(bs.length : Int) = 1 := by omega
  clear hA hz
  go_enter Tryz.func112, Tryz.ntmps112
  go_wp2_with fail
  go_ret2
  exact ⟨none, 0, rfl, IntsNew.nil, Below.refl _ _⟩
set_option maxRecDepth 100000 in
set_option maxHeartbeats 12800000 in
theorem decode_n1 (A : Option Addr) (bs : List Int) (c : Nat) (seed : Int) (w : World) (hA : IntsAt w w.heap.size .u8 A bs) (hz : Within 0 255 bs) (h8 : bs.length ≤ 8000) (h1 : bs.length = 1) (s0 : 0 ≤ seed) (s1 : seed ≤ 4294967295) : Calls Tryz.prog 112 #[.int .u8 13, .slice A bs.length c, .int .u32 seed] w (DecodeR ((Ev.noise (bs.getD 0 0) seed 160).1, (Ev.noise (bs.getD 0 0) seed 160).2.1) w) := by
  obtain ⟨x, rfl⟩ : ∃ x, bs = [x] := by
    match bs, h1 with
    | [x], _ => exact ⟨x, rfl⟩
  obtain ⟨x0, x1⟩ := hz x (by simp)
  obtain ⟨b, off, rfl, hbB, hcell⟩ := hA (by simp)
  have c0 := hcell 0 (by simp)
  have k1 := Lib.hid fun (W : World) => Noise_okN x seed W 160 x0 x1 s0 s1 (by omega)
  have e : ((Ev.noise ([x].getD 0 0) seed 160).1, (Ev.noise ([x].getD 0 0) seed 160).2.1) = ((List.range 160).map (fun k => Ev.nsamp (Ev.amp (x / 6).toNat) seed k), Ev.seed seed 160) := by
    show ((Ev.noise x seed 160).1, (Ev.noise x seed 160).2.1) = _
    unfold Ev.noise
    rw [if_neg (by decide)]; rfl
  rw [e]
  clear hcell e hz h1
  simp only [List.getD_cons_zero, Nat.add_zero] at c0
  go_enter Tryz.func112, Tryz.ntmps112
  go_wp2_with fail
  refine (k1.out _).mono ?_
  rintro e w1 ⟨A1, c1, rfl, hI, hb1⟩
  go_wp2_with fail
  go_ret2
  exact ⟨A1, c1, by simp, hI, hb1⟩
set_option maxRecDepth 100000 in
set_option maxHeartbeats 12800000 in
theorem decode_mu (A : Option Addr) (bs : List Int) (c : Nat) (seed : Int) (w : World) (hA : IntsAt w w.heap.size .u8 A bs) (hz : Within 0 255 bs) (h8 : bs.length ≤ 8000) : Calls Tryz.prog 112 #[.int .u8 0, .slice A bs.length c, .int .u32 seed] w (DecodeR (bs.map Cmp.fromMuZ, seed) w) := by
  have HA := Lib.hid hA
  clear hA
  go_enter Tryz.func112, Tryz.ntmps112
  go_wp2_with fail
  refine (codecs_any _).mono ?_
  rintro e w1 ⟨b, b1, b2, rfl, C, hb1⟩
  have kl := (look_codec C 0 (by omega) (by omega)).2
  have BL := Lib.hid C.l1
  have HB := Lib.hid hb1
  have IA := Lib.hid ((HA.out.later hb1).push (.cells (cLaw b1).cells 97))
  rw [show cAt b1 b2 0 = cLaw b1 from rfl, show speechB 0 = true from rfl] at kl
  simp only [cLaw, cDel] at kl
  clear C hb1 HA
  have BL2 := Lib.hid (BL.out.push (.cells (cLaw b1).cells 97))
  go_wp2_with fail
  refine (dec_mu 160 A bs c b1 _ IA.out hz h8 BL2.out).mono ?_
  rintro e w2 ⟨A1, c1, rfl, hI, hb2⟩
  have hs := HB.out.size
  have HI := Lib.hid (hI.less (m := w.heap.size) (by rw [size_alloc1]; omega))
  have U := Lib.hid (((Bel.later (Bel.refl w) HB.out).push (.cells (cLaw b1).cells 97)).later hb2)
  clear hI hb2 HB
  go_wp2_with fail
  go_ret2
  exact ⟨A1, c1, by simp, HI.out, U.out⟩
set_option maxRecDepth 100000 in
set_option maxHeartbeats 12800000 in
theorem decode_a (A : Option Addr) (bs : List Int) (c : Nat) (seed : Int) (w : World) (hA : IntsAt w w.heap.size .u8 A bs) (hz : Within 0 255 bs) (h8 : bs.length ≤ 8000) : Calls Tryz.prog 112 #[.int .u8 8, .slice A bs.length c, .int .u32 seed] w (DecodeR (bs.map Cmp.fromAZ, seed) w) := by
  have HA := Lib.hid hA
  clear hA
  go_enter Tryz.func112, Tryz.ntmps112
  go_wp2_with fail
  refine (codecs_any _).mono ?_
  rintro e w1 ⟨b, b1, b2, rfl, C, hb1⟩
  have kl := (look_codec C 8 (by omega) (by omega)).2
  have BL := Lib.hid C.l2
  have HB := Lib.hid hb1
  have IA := Lib.hid ((HA.out.later hb1).push (.cells (cLaw b2).cells 97))
  rw [show cAt b1 b2 8 = cLaw b2 from rfl, show speechB 8 = true from rfl] at kl
  simp only [cLaw, cDel] at kl
  clear C hb1 HA
  have BL2 := Lib.hid (BL.out.push (.cells (cLaw b2).cells 97))
  go_wp2_with fail
  refine (dec_a 160 A bs c b2 _ IA.out hz h8 BL2.out).mono ?_
  rintro e w2 ⟨A1, c1, rfl, hI, hb2⟩
  have hs := HB.out.size
  have HI := Lib.hid (hI.less (m := w.heap.size) (by rw [size_alloc1]; omega))
  have U := Lib.hid (((Bel.later (Bel.refl w) HB.out).push (.cells (cLaw b2).cells 97)).later hb2)
  clear hI hb2 HB
  go_wp2_with fail
  go_ret2
  exact ⟨A1, c1, by simp, HI.out, U.out⟩
set_option maxRecDepth 100000 in
set_option maxHeartbeats 12800000 in
theorem decode_del (A : Option Addr) (bs : List Int) (c : Nat) (seed : Int) (w : World) (hA : IntsAt w w.heap.size .u8 A bs) (hz : Within 0 255 bs) (h8 : bs.length ≤ 8000) (hc : bs.length ≤ c) : Calls Tryz.prog 112 #[.int .u8 96, .slice A bs.length c, .int .u32 seed] w (DecodeR (Sb.decS 96 bs, seed) w) := by
  have HA := Lib.hid hA
  clear hA
  have hm : bs.length ≤ maxLen := by unfold maxLen; omega
  obtain ⟨un1, un2⟩ := unp160 bs
  go_enter Tryz.func112, Tryz.ntmps112
  go_wp2_with fail
  refine (codecs_any _).mono ?_
  rintro e w1 ⟨b, b1, b2, rfl, C, hb1⟩
  have kl := (look_codec C 96 (by omega) (by omega)).2
  have HB := Lib.hid hb1
  have IA := Lib.hid ((HA.out.later hb1).push (.cells cDel.cells 97))
  rw [show cAt b1 b2 96 = cDel from rfl, show speechB 96 = true from rfl] at kl
  simp only [cLaw, cDel] at kl
  clear C hb1 HA
  go_wp2_with fail
  refine (dec_del 160 A bs c _ IA.out hz hc hm).mono ?_
  rintro e w2 ⟨A1, c1, rfl, hI, hb2⟩
  have hs := HB.out.size
  have HI := Lib.hid (hI.less (m := w.heap.size) (by rw [size_alloc1]; omega))
  have U := Lib.hid (((Bel.later (Bel.refl w) HB.out).push (.cells cDel.cells 97)).later hb2)
  clear hI hb2 HB
  generalize Dlt.unpR bs 160 = R at *
  obtain ⟨R1, R2, R3, R4⟩ := R
  replace un1 : R1 = Sb.decS 96 bs := un1
  subst un1
  by_cases h4 : R4 = 0
  rotate_left
  · have e4 := Lib.hid (show Sb.decS 96 bs = [] from un2 h4)
    clear un2
    go_wp2_with fail
    go_ret2
    exact ⟨none, 0, by rw [e4.out]; rfl, by rw [e4.out]; exact IntsNew.nil, U.out⟩
  subst h4
  clear un2
  go_wp2_with fail
  go_ret2
  exact ⟨A1, c1, by simp, HI.out, U.out⟩
set_option maxRecDepth 100000 in
set_option maxHeartbeats 12800000 in
theorem decode_no (A : Option Addr) (bs : List Int) (c : Nat) (seed : Int) (w : World) (hA : IntsAt w w.heap.size .u8 A bs) (hz : Within 0 255 bs) (h8 : bs.length ≤ 8000) (k : Int) (hk0 : 0 ≤ k) (hk1 : k ≤ 255) (h13 : ¬k = 13) (hs : ¬(k = 0 ∨ k = 8 ∨ k = 96)) : Calls Tryz.prog 112 #[.int .u8 k, .slice A bs.length c, .int .u32 seed] w (DecodeR ([], seed) w) := by
  have HA := Lib.hid hA
  clear hA
  go_enter Tryz.func112, Tryz.ntmps112
  go_wp2_with fail
  refine (codecs_any _).mono ?_
  rintro e w1 ⟨b, b1, b2, rfl, C, hb1⟩
  have kl := (look_codec C k (by omega) (by omega)).2
  have HB := Lib.hid hb1
  have IA := Lib.hid ((HA.out.later hb1).push (.cells cNil.cells 97))
  rw [show cAt b1 b2 k = cNil by unfold cAt; rw [if_neg (by omega), if_neg (by omega), if_neg (by omega)], speechB_f hs] at kl
  simp only [cNil] at kl
  clear C hb1 HA
  go_wp2_with fail
  go_ret2
  exact ⟨none, 0, rfl, IntsNew.nil, (Bel.later (Bel.refl w) HB.out).push _⟩
theorem sdecode_any (k : Int) (A : Option Addr) (bs : List Int) (c : Nat) (seed : Int) (w : World) (hA : IntsAt w w.heap.size .u8 A bs) (hz : Within 0 255 bs) (h8 : bs.length ≤ 8000) (hk0 : 0 ≤ k) (hk1 : k ≤ 255) (s0 : 0 ≤ seed) (s1 : seed ≤ 4294967295) (hc : k = 96 → bs.length ≤ c) : Calls Tryz.prog 112 #[.int .u8 k, .slice A bs.length c, .int .u32 seed] w (DecodeR (Sb.dec k bs seed) w) := by
  unfold Sb.dec
  by_cases h13 : k = 13
  · subst h13
    rw [if_pos rfl]
    by_cases h1 : bs.length = 1
    · rw [if_pos h1]; exact decode_n1 A bs c seed w hA hz h8 h1 s0 s1
    · rw [if_neg h1]; exact decode_n0 A bs c seed w hA hz h8 h1
  rw [if_neg h13]
  by_cases h0 : k = 0
  · subst h0; exact decode_mu A bs c seed w hA hz h8
  by_cases h2 : k = 8
  · subst h2; exact decode_a A bs c seed w hA hz h8
  by_cases h3 : k = 96
  · subst h3; exact decode_del A bs c seed w hA hz h8 (hc rfl)
  have e : Sb.decS k bs = [] := by unfold Sb.decS; rw [if_neg h0, if_neg h2, if_neg h3]
  rw [e]
  exact decode_no A bs c seed w hA hz h8 k hk0 hk1 h13 (by omega)
end Go.Proofs.YtahbecinkciahaaGreat
/- Layer 32: sounds. -/
namespace Go.Proofs.YtahbecinkciahaaGreat
open Go.RowKit
set_option linter.unusedVariables false
set_option linter.unusedSimpArgs false
attribute [local go_sem ↓] run_min_plain run_max_plain
attribute [local go_sem] setCell_drewN alloc_drewN
theorem SOwn.drew {w : World} {base n c : Nat} {A : Option Addr} {l : List TS} (h : SOwn w base A n c l) : SOwn w.drew base A n c l := ⟨h.len, h.own, h.pay, h.far, h.new⟩
theorem PB.set {W : World} {g : Nat} {p : Sb.Pt} {A : Option Addr} {n c : Nat} (h : PB W g p A n c) (i : Nat) (v : Value) (p' : Sb.Pt) (hp : (PL p A n c).set i v = PL p' A n c) : PB (W.setCell ⟨g, i, none⟩ v) g p' A n c := by
  have := Blk.set_ h i v
  unfold PB PA
  rw [← hp]
  unfold PA at this
  simpa using this
/-- a packet that decode takes -/
structure OkP (a : TW) : Prop where
  t0 : 0 ≤ a.w.m.ty
  t1 : a.w.m.ty ≤ 255
  z : Within 0 255 a.w.m.pl
  len : a.w.m.pl.length ≤ 8000
  cap : a.w.m.ty = 96 → a.w.m.pl.length ≤ a.c
theorem dec_seed (k : Int) (pl : List Int) (s : Int) (h0 : 0 ≤ s) (h1 : s ≤ 4294967295) : 0 ≤ (Sb.dec k pl s).2 ∧ (Sb.dec k pl s).2 ≤ 4294967295 := by
  unfold Sb.dec
  split
  · split
    · have e : (Ev.noise (pl.getD 0 0) s 160).2.1 = Ev.seed s 160 := by unfold Ev.noise; rw [if_neg (by decide)]; rfl
      show 0 ≤ (Ev.noise (pl.getD 0 0) s 160).2.1 ∧ (Ev.noise (pl.getD 0 0) s 160).2.1 ≤ 4294967295
      rw [e]
      exact Sb.noise_seed 0 s h0 h1 160
    · exact ⟨h0, h1⟩
  · exact ⟨h0, h1⟩
theorem sounds_seed : ∀ (l : List Jb.Wt) (s : Int), 0 ≤ s → s ≤ 4294967295 → 0 ≤ (Sb.sounds s l).1 ∧ (Sb.sounds s l).1 ≤ 4294967295
  | [], s, h0, h1 => ⟨h0, h1⟩
  | a :: l, s, h0, h1 => by
    have h := dec_seed a.m.ty a.m.pl s h0 h1
    exact sounds_seed l _ h.1 h.2
/-- what sounds leaves -/
def SoundsR (p : Sb.Pt) (A : Option Addr) (n c : Nat) (l : List TW) (w : World) (e : Ending) (w' : World) : Prop :=
  ∃ (A' : Option Addr) (c' : Nat) (ls : List TS), e = .returned (.tuple #[.agg (PA { p with seed := (Sb.sounds p.seed (l.map TW.w)).1 } A n c), .slice A' l.length c']) ∧ ls.map TS.s = (Sb.sounds p.seed (l.map TW.w)).2 ∧ SOwn w' (w.heap.size + 3) A' l.length c' ls ∧ Below w.heap.size w w'
set_option maxRecDepth 100000 in
set_option maxHeartbeats 12800000 in
theorem sounds_any (p : Sb.Pt) (s0 : 0 ≤ p.seed) (s1 : p.seed ≤ 4294967295) (A : Option Addr) (n c : Nat) (X : Array Value) (hX : X = PA p A n c) (PA1 : Option Addr) (l : List TW) (m pc : Nat) (w : World) (hm : l.length = m) (hml : m ≤ 100000) (hA : Wts w w.heap.size PA1 l) (hok : ∀ a ∈ l, OkP a) : Calls Tryz.prog 47 #[.agg X, .slice PA1 m pc] w (SoundsR p A n c l w) := by
  subst hm
  have HA := Lib.hid hA
  have HP := Lib.hid hok
  clear hA hok
  have B0 := Lib.hid (((PB.new w X hX).push (.cells (PA Sb.Pt.zero none 0 0) 48)).push (.cells #[.slice none 0 0] 54))
  have B1 := Lib.hid ((Blk.new1 w (.cells X 48) 48 (PA Sb.Pt.zero none 0 0)).push (.cells #[.slice none 0 0] 54))
  have B2 := Lib.hid (Blk.new2 w (.cells X 48) (.cells (PA Sb.Pt.zero none 0 0) 48) 54 #[.slice none 0 0])
  have U0 := Lib.hid ((((Bel.refl w).push (.cells X 48)).push (.cells (PA Sb.Pt.zero none 0 0) 48)).push (.cells #[.slice none 0 0] 54))
  have hmf : ∀ (fn : Fn) (first cap : Array Value) (w : World), (Instr.makeFunc fn first cap).run Tryz.prog w = .ok (.func fn first cap) w := fun _ _ _ _ => rfl
  have HS0 := Lib.hid (show (0 : Int) ≤ p.seed ∧ p.seed ≤ 4294967295 from ⟨s0, s1⟩)
  clear hX s0 s1
  go_enter Tryz.func47, Tryz.ntmps47
  go_upto_region 2 with fail
  obtain ⟨W0, hW0⟩ : ∃ W, W = ((w.alloc (Obj.cells X 48)).alloc (Obj.cells (PA Sb.Pt.zero none 0 0) 48)).alloc (Obj.cells #[.slice none 0 0] 54) := ⟨_, rfl⟩
  change Code.wp _ _ _ _ (((w.alloc (Obj.cells X 48)).alloc (Obj.cells (PA Sb.Pt.zero none 0 0) 48)).alloc (Obj.cells #[.slice none 0 0] 54))
  rw [← hW0] at B0 B1 B2 U0 ⊢
  clear hW0
  go_upto_region 3 with fail
  go_wp2_with fail
  go_loopg [15] l.length (fun gk i wr => ∃ (k : Nat) (A' : Option Addr) (c' : Nat) (ls : List TS), gk + k = l.length ∧ i = .int .i64 k ∧ Hid (ls.map TS.s = (Sb.sounds p.seed ((l.map TW.w).take k)).2) ∧ Hid (SOwn wr (w.heap.size + 3) A' k c' ls) ∧ Hid (PB wr w.heap.size { p with seed := (Sb.sounds p.seed ((l.map TW.w).take k)).1 } A n c) ∧ Hid (Blk wr (w.heap.size + 1) 48 (PA Sb.Pt.zero none 0 0)) ∧ Hid (Blk wr (w.heap.size + 1 + 1) 54 #[.slice A' k c']) ∧ Hid (Bel w wr))
  case atStart => exact ⟨0, none, 0, [], rfl, rfl, Lib.hid rfl, Lib.hid SOwn.nil, B0, B1, B2, U0⟩
  case round =>
    obtain ⟨k, A', c', ls, hgk, rfl, HL, HO, B0, B1, B2, U⟩ := hrel
    have hi0 : (0 : Int) ≤ (k : Int) := by omega
    have hbs := B2.out.lt
    by_cases hk : k < l.length
    rotate_left
    · obtain rfl : k = l.length := by omega
      have hi1 : (l.length : Int) ≤ (l.length : Int) := Int.le_refl _
      rw [List.take_of_length_le (by simp)] at HL B0
      go_upto_region 10 with fail
      obtain ⟨q, hq⟩ : ∃ q : Sb.Pt, q = { p with seed := (Sb.sounds p.seed (l.map TW.w)).1 } := ⟨_, rfl⟩
      rw [← hq] at B0
      have HQ := Lib.hid hq
      have V1 : Blk wr.drew (w.heap.size + 1) 48 (PL Sb.Pt.zero none 0 0).toArray := Blk.dr B1.out
      have VO : SOwn wr.drew (w.heap.size + 3) A' l.length c' ls := HO.out.drew
      have VU : Bel w wr.drew := Bel.drew U.out
      clear hq
      refine wp_region_held_drew (S := fun w' => Blk w' w.heap.size 48 (PL q A n c).toArray ∧ Blk w' (w.heap.size + 1 + 1) 54 #[.slice A' l.length c']) (by kernel_rfl) ⟨Blk.dr B0.out, Blk.dr B2.out⟩ (fun hHeld => ?_)
      refine tk1 (i := 0) (v := .agg (PA q A n c)) rfl (yif_load_part rfl 48 (.tmp 2) rfl w.heap.size 0 rfl 48 (PL q A n c) (fun w h => h.1) 48 _ Tryz.underlying48 info_port (Nat.le_refl 48) _ rfl rfl) hHeld ?_
      try simp only [List.getElem_toArray, List.getElem_cons_zero, List.getElem_cons_succ, Act.put, List.setIfInBounds_toArray, List.set_cons_zero, List.set_cons_succ]
      refine tk1 (i := 1) (v := .slice A' l.length c') rfl (Or.inl ⟨by rfl, fun w h => by have c2 := h.2.at 0 _ rfl; clear h; go_simp; try with_reducible rfl⟩) hHeld ?_
      try simp only [List.getElem_toArray, List.getElem_cons_zero, List.getElem_cons_succ, Act.put, List.setIfInBounds_toArray, List.set_cons_zero, List.set_cons_succ]
      refine wpAnyH_ready (rs := [2]) (by kernel_rfl) (by simp) ?_
      refine AllReadyH.cons (o := _) rfl (fun K hK => ?_) AllReadyH.nil
      refine step_store_part rfl 48 (.tmp 4) (.tmp 39) rfl (w.heap.size + 1) 0 rfl 48 _ V1 (PL q A n c) rfl info_port (Nat.le_refl 48) rfl (PL q A n c) rfl ?_
      intro WF BF OF
      refine hK.out _ _ ⟨OF.blk hHeld.1 (by omega), OF.blk hHeld.2 (by omega)⟩ (fun hHeld2 => ?_)
      clear hK K
      try simp only [List.getElem_toArray, List.getElem_cons_zero, List.getElem_cons_succ, Act.put, List.setIfInBounds_toArray, List.set_cons_zero, List.set_cons_succ]
      refine tk1 (i := 3) (v := .slice A' l.length c') rfl (Or.inl ⟨by rfl, fun w _ => by go_simp; try with_reducible rfl⟩) hHeld2 ?_
      try simp only [List.getElem_toArray, List.getElem_cons_zero, List.getElem_cons_succ, Act.put, List.setIfInBounds_toArray, List.set_cons_zero, List.set_cons_succ]
      refine wpAnyH_done (by kernel_rfl) ?_ _
      go_wp2_with fail
      refine bodyPost_ret (v := .tuple #[.agg (PA q A n c), .slice A' l.length c']) (res_ct Tryz.results47 rfl (PB.load BF) rfl) rfl ⟨A', c', ls, by rw [HQ.out], HL.out, VO.only OF (by omega), OF.bel VU (by omega)⟩
    have hi1 : (k : Int) < (l.length : Int) := by omega
    obtain ⟨a, ha⟩ : ∃ a, l[k]? = some a := ⟨_, List.getElem?_eq_getElem hk⟩
    obtain ⟨b, off, rfl, hbB, e0, e1, e2, e3, e4, e5⟩ := rowsW (HA.out.1.keep (fun p hp => U.out.cell hp)) ha
    have hpa := HP.out a (List.mem_of_getElem? ha)
    have hia := (HA.out.2 a (List.mem_of_getElem? ha)).keep (w' := wr) (fun p hp => U.out.cell hp)
    have hm : (l.map TW.w)[k]? = some a.w := by rw [List.getElem?_map, ha]; rfl
    have HM := Lib.hid hm
    have hsd := sounds_seed ((l.map TW.w).take k) p.seed HS0.out.1 HS0.out.2
    obtain ⟨⟨at0, ⟨sq0, ti0, mk0, ty0, pl0⟩⟩, S0, c0⟩ := a
    obtain ⟨t0, t1, tz, tl, tc⟩ := hpa
    simp only at e0 e1 e2 e3 e4 e5 t0 t1 tz tl tc hia HM
    have hsn : Hid (Sb.sounds p.seed ((l.map TW.w).take (k + 1)) = ((Sb.dec ty0 pl0 (Sb.sounds p.seed ((l.map TW.w).take k)).1).2, (Sb.sounds p.seed ((l.map TW.w).take k)).2 ++ [⟨at0, (Sb.dec ty0 pl0 (Sb.sounds p.seed ((l.map TW.w).take k)).1).1, []⟩])) := Lib.hid (by rw [Sb.take_snoc HM.out, Sb.sounds_snoc])
    generalize Sb.sounds p.seed ((l.map TW.w).take k) = R at *
    obtain ⟨R1, R2⟩ := R
    simp only at hsd hsn HL B0
    obtain ⟨d0, d1⟩ := hsd
    have k1 := Lib.hid fun (W : World) hW => sdecode_any ty0 S0 pl0 c0 R1 W hW tz tl t0 t1 d0 d1 tc
    have hds := Lib.hid (dec_seed ty0 pl0 R1 d0 d1)
    generalize Sb.dec ty0 pl0 R1 = D at *
    obtain ⟨D1, D2⟩ := D
    have IA := Lib.hid (hia.more (Nat.le_trans (Nat.le_refl _) U.out.size))
    clear ha hm hia tz tl tc t0 t1
    have BX := Lib.hid (Blk.new wr 105 #[.int .i64 at0, .int .i64 sq0, .int .i64 ti0, .bool mk0, .int .u8 ty0, .slice S0 pl0.length c0])
    obtain ⟨W1, hW1⟩ : ∃ W, W = wr.alloc (.cells #[.int .i64 at0, .int .i64 sq0, .int .i64 ti0, .bool mk0, .int .u8 ty0, .slice S0 pl0.length c0] 105) := ⟨_, rfl⟩
    have BB := Lib.hid (show Below wr.heap.size wr W1 by rw [hW1]; exact (Below.refl _ _).alloc (Nat.le_refl _) _)
    rw [← hW1] at BX
    go_upto_region 6 with fail
    rw [← hW1]
    clear hW1 e0 e1 e2 e3 e4 e5
    replace B0 := Lib.hid (B0.out.later BB.out)
    replace B1 := Lib.hid (B1.out.later BB.out)
    replace B2 := Lib.hid (B2.out.later BB.out)
    replace HO := Lib.hid (HO.out.below BB.out)
    replace IA := Lib.hid (IA.out.later BB.out)
    replace U := Lib.hid (U.out.later BB.out)
    obtain ⟨gx, hgx⟩ : ∃ g, g = wr.heap.size := ⟨_, rfl⟩
    rw [← hgx] at BX ⊢
    have hg3 : w.heap.size + 3 ≤ gx := by omega
    clear BB hgx
    have x4 := BX.out.at 4 _ rfl
    have x5 := BX.out.at 5 _ rfl
    have sd := B0.out.cell 45 _ rfl
    go_wp2_with fail
    refine (k1.out _ IA.out).mono ?_
    rintro e w2 ⟨A1, c1, rfl, hI, hb2⟩
    clear x4 x5 sd
    have hfar : Hid (0 < D1.length → ∀ b off, A1 = some ⟨b, off, none⟩ → some b ≠ ownB A' ∧ w.heap.size + 3 ≤ b) := Lib.hid fun h0 b off e => by
      have h1 := hI.2 h0 b off e
      have h2 := BX.out.lt
      refine ⟨fun he => ?_, by omega⟩
      have h3 := (HO.out.own.block b he.symm).2
      omega
    have HI := Lib.hid hI.1
    replace B0 := Lib.hid (B0.out.later hb2)
    replace B1 := Lib.hid (B1.out.later hb2)
    replace B2 := Lib.hid (B2.out.later hb2)
    replace BX := Lib.hid (BX.out.later hb2)
    replace HO := Lib.hid (HO.out.below hb2)
    replace U := Lib.hid (U.out.later hb2)
    clear hb2 hI IA
    have sd := B0.out.cell 45 _ rfl
    have sz := Blk.frozen B0.out 45
    go_upto_region 8 with fail
    obtain ⟨W3, hW3⟩ : ∃ W, W = w2.setCell ⟨w.heap.size, 45, none⟩ (.int .u32 D2) := ⟨_, rfl⟩
    rw [← hW3]
    have OV : OnlyB w.heap.size w2 W3 := by rw [hW3]; exact OnlyB.setCell _ _ _ _
    replace B0 := Lib.hid (show PB W3 w.heap.size { p with seed := D2 } A n c by rw [hW3]; exact B0.out.set 45 _ _ rfl)
    replace B1 := Lib.hid (OV.blk B1.out (by omega))
    replace B2 := Lib.hid (OV.blk B2.out (by omega))
    replace BX := Lib.hid (OV.blk BX.out (by omega))
    replace HO := Lib.hid (HO.out.only OV (by omega))
    replace U := Lib.hid (OV.bel U.out (Nat.le_refl _))
    have HI2 : Hid (IntsAt W3 W3.heap.size .i16 A1 D1) := Lib.hid fun h0 => by
      obtain ⟨b, off, e, hlt, hc⟩ := HI.out h0
      have := (hfar.out h0 b off e).2
      exact ⟨b, off, e, by rw [OV.2]; exact hlt, fun i hi => (OV.cell (show b ≠ w.heap.size by omega)).trans (hc i hi)⟩
    clear hW3 OV sd sz HI
    have x0 := BX.out.at 0 _ rfl
    have hbx := BX.out.lt
    go_wp2_with fail
    refine (add_any (w.heap.size + 3) (w.heap.size + 1 + 1) A' k c' ls at0 A1 D1 c1 _ B2.out HO.out (by omega) (by omega) (by omega) HI2.out hfar.out).mono ?_
    rintro e w4 ⟨rfl, A4, c4, B4, O4, K4⟩
    have hB2 := Lib.hid B4
    have hHO := Lib.hid O4
    replace B0 := Lib.hid (K4.blk B0.out (by omega) (by omega))
    replace B1 := Lib.hid (K4.blk B1.out (by omega) (by omega))
    replace U := Lib.hid (K4.bel U.out (by omega) (by omega))
    clear B4 O4 K4 x0 hbx B2 HO BX
    go_wp2_with fail
    go_roundg (gk - 1)
    case measure => omega
    case rel =>
      refine ⟨k + 1, A4, c4, ls ++ [⟨⟨at0, D1, []⟩, A1, c1⟩], by omega, by go_num, Lib.hid ?_, hHO, ?_, B1, hB2, U⟩
      · rw [hsn.out, List.map_append, HL.out]; rfl
      · rw [hsn.out]; exact B0
end Go.Proofs.YtahbecinkciahaaGreat
/- Layer 32: playWith and Play, at a time that is taken. -/
namespace Go.Proofs.YtahbecinkciahaaGreat
open Go.RowKit
set_option linter.unusedVariables false
set_option linter.unusedSimpArgs false
attribute [local go_sem ↓] run_min_plain run_max_plain
attribute [local go_sem] setCell_drewN alloc_drewN
theorem WtsIn.only {W W' : World} {lo hi g : Nat} {A : Option Addr} {l : List TW} (h : WtsIn W lo hi A l) (ho : OnlyB g W W') (hg : g < lo) : WtsIn W' lo hi A l := h.keep fun p hp _ => ho.cell (by omega)
theorem WtsIn.step {W W' : World} {lo g : Nat} {A : Option Addr} {l : List TW} (h : WtsIn W lo W.heap.size A l) (ho : OnlyB g W W') (hg : g < lo) : WtsIn W' lo W'.heap.size A l := by rw [ho.2]; exact h.only ho hg
theorem WtsIn.later {W W' : World} {lo : Nat} {A : Option Addr} {l : List TW} (h : WtsIn W lo W.heap.size A l) (hb : Below W.heap.size W W') : WtsIn W' lo W'.heap.size A l := (h.below hb (Nat.le_refl _)).more hb.size
/-- a packet in the queue that can be played -/
structure OkW (a : Jb.Wt) : Prop where
  t0 : 0 ≤ a.m.ty
  t1 : a.m.ty ≤ 255
  z : Within 0 255 a.m.pl
  len : a.m.pl.length ≤ 8000
  no96 : a.m.ty ≠ 96
theorem OkW.okP {a : TW} (h : OkW a.w) : OkP a := ⟨h.t0, h.t1, h.z, h.len, fun e => absurd e h.no96⟩
theorem okP_all {l : List TW} {q : List Jb.Wt} (hl : l.map TW.w = q) (h : ∀ a ∈ q, OkW a) : ∀ a ∈ l, OkP a := fun a ha => (h a.w (by rw [← hl]; exact List.mem_map_of_mem ha)).okP
/-- what playWith leaves -/
def PlayR (p : Sb.Pt) (now v : Int) (w : World) (e : Ending) (w' : World) : Prop :=
  ∃ (A' : Option Addr) (n' c' : Nat) (l' : List TW) (SA : Option Addr) (sc m : Nat) (ls : List TS) (base : Nat), e = .returned (.tuple #[.agg (PA (Sb.run p now).1 A' n' c'), .int .u8 v, .slice SA m sc, .int .u8 0]) ∧ l'.map TW.w = (Sb.run p now).1.jt.q ∧ l'.length = n' ∧ n' ≤ c' ∧ c' ≤ maxLen ∧ WtsIn w' w.heap.size w'.heap.size A' l' ∧ ls.map TS.s = (Sb.run p now).2 ∧ w.heap.size ≤ base ∧ SOwn w' base SA m sc ls ∧ Below w.heap.size w w'
set_option maxRecDepth 100000 in
set_option maxHeartbeats 12800000 in
theorem playWith_ok (p : Sb.Pt) (hw : p.wf) (A : Option Addr) (l : List TW) (n c : Nat) (X : Array Value) (hX : X = PA p A n c) (w : World) (hq : l.map TW.w = p.jt.q) (hn : l.length = n) (hl : n ≤ 100000) (hcap : n ≤ c) (hcm : c ≤ maxLen) (hA : Wts w w.heap.size A l) (hK : ∀ a ∈ l, I64 a.w.m.sq) (now v : Int) (he : (Jb.run p.jt now).2.2 = 0) (hO : ∀ a ∈ (Jb.run p.jt now).2.1, OkW a) (hm : (Jb.run p.jt now).2.1.length ≤ 100000) : Calls Tryz.prog 41 #[.agg X, .int .i64 now, .int .u8 v] w (PlayR p now v w) := by
  have B0 := Lib.hid ((PB.new w X hX).push (.cells (PA Sb.Pt.zero none 0 0) 48))
  have B1 := Lib.hid (Blk.new1 w (.cells X 48) 48 (PA Sb.Pt.zero none 0 0))
  have U0 := Lib.hid (((Bel.refl w).push (.cells X 48)).push (.cells (PA Sb.Pt.zero none 0 0) 48))
  have HA := Lib.hid ((hA.push (.cells X 48)).push (.cells (PA Sb.Pt.zero none 0 0) 48))
  have k1 := Lib.hid fun (W : World) hW => jrun_stW p.jt A l n c now W hq hn hl hcap hcm hW hK
  have HP : Hid (PlayR p now v w = fun e w' => ∃ (A' : Option Addr) (n' c' : Nat) (l' : List TW) (SA : Option Addr) (sc m : Nat) (ls : List TS) (base : Nat), e = .returned (.tuple #[.agg (PA { p with jt := (Jb.run p.jt now).1, seed := (Sb.sounds p.seed (Jb.run p.jt now).2.1).1 } A' n' c'), .int .u8 v, .slice SA m sc, .int .u8 0]) ∧ l'.map TW.w = (Jb.run p.jt now).1.q ∧ l'.length = n' ∧ n' ≤ c' ∧ c' ≤ maxLen ∧ WtsIn w' w.heap.size w'.heap.size A' l' ∧ ls.map TS.s = (Sb.sounds p.seed (Jb.run p.jt now).2.1).2 ∧ w.heap.size ≤ base ∧ SOwn w' base SA m sc ls ∧ Below w.heap.size w w') := Lib.hid rfl
  rw [HP.out]
  clear HP
  unfold JRunW at k1
  unfold JV at k1
  have HO := Lib.hid hO
  obtain ⟨R, hR⟩ : ∃ R, R = Jb.run p.jt now := ⟨_, rfl⟩
  rw [← hR] at k1 HO he hm ⊢
  clear hR
  obtain ⟨R1, R2, R3⟩ := R
  obtain rfl : R3 = 0 := he
  have hs0 := hw.seed.1
  have hs1 := hw.seed.2
  clear hX hA hK hq hO
  go_enter Tryz.func41, Tryz.ntmps41
  go_upto_region 1 with fail
  change Code.wp _ _ _ _ ((w.alloc (Obj.cells X 48)).alloc (Obj.cells (PA Sb.Pt.zero none 0 0) 48))
  obtain ⟨W, hW⟩ : ∃ W, W = (w.alloc (Obj.cells X 48)).alloc (Obj.cells (PA Sb.Pt.zero none 0 0) 48) := ⟨_, rfl⟩
  rw [← hW] at B0 B1 U0 HA ⊢
  clear hW
  obtain ⟨x14, x15, x16, x17, x18, x19, x20, x21, x22, x23, x24, x25, x26, x27⟩ := B0.out.jt
  have hL := B1.out.lt
  go_wp2_with fail
  refine (k1.out _ HA.out).mono ?_
  rintro e w1 ⟨A1, c1, l1, A2, c2, l2, rfl, hl1, hl2, hW1, hW2, hc2, hm2, hb1, hc1, hm1⟩
  clear x14 x15 x16 x17 x18 x19 x20 x21 x22 x23 x24 x25 x26 x27
  replace U0 := Lib.hid (U0.out.later hb1)
  replace B0 := Lib.hid (B0.out.later hb1)
  replace B1 := Lib.hid (B1.out.later hb1)
  have HL1 := Lib.hid hl1
  have HL2 := Lib.hid hl2
  have HOK := Lib.hid (okP_all hl1 HO.out)
  have hlen1 : l1.length ≤ 100000 := by have := congrArg List.length hl1; simp at this hm; omega
  have BJ := Lib.hid (Blk.new w1 40 (JW R1 A2 l2.length c2).toArray)
  obtain ⟨g1, hg1⟩ : ∃ g, g = w1.heap.size := ⟨_, rfl⟩
  have hs1' := U0.out.size
  have hb1lt := B1.out.lt
  obtain ⟨W1, hWW⟩ : ∃ W, W = w1.alloc (.cells (JW R1 A2 l2.length c2).toArray 40) := ⟨_, rfl⟩
  have BB := Lib.hid (show Below w1.heap.size w1 W1 by rw [hWW]; exact (Below.refl _ _).alloc (Nat.le_refl _) _)
  have hg1' : Hid (g1 = w1.heap.size) := Lib.hid hg1
  rw [← hg1, ← hWW] at BJ
  go_upto_region 4 with fail
  rw [← hg1]
  change Code.wp _ _ _ _ (w1.alloc (Obj.cells (JW R1 A2 l2.length c2).toArray 40))
  rw [← hWW]
  replace U0 := Lib.hid (U0.out.later BB.out)
  replace B0 := Lib.hid (B0.out.later BB.out)
  replace B1 := Lib.hid (B1.out.later BB.out)
  have HW1 := Lib.hid (hW1.later BB.out)
  have HW2 := Lib.hid (hW2.later BB.out)
  clear hb1 hl1 hl2 hWW hg1 hW1 hW2 BB HA
  have hgl := Blk.lt B0.out
  go_upto_region 5 with (first | (refine wpList_load_part rfl 40 (.tmp 10) rfl (g1) 0 rfl 40 (JW R1 A2 l2.length c2) BJ.out 14 _ Tryz.underlying40 info_jit (show 0 + 14 ≤ 14 by decide) ((JW R1 A2 l2.length c2).toArray) (by rfl) rfl ?_) | (refine wpList_store_part rfl 40 (.tmp 27) (.tmp 26) rfl (w.heap.size) 14 rfl 48 (PL p A n c) B0.out (JW R1 A2 l2.length c2) rfl info_jit (show 14 + 14 ≤ 48 by decide) rfl (PL { p with jt := R1 } A2 l2.length c2) rfl ?_; intro WF BF OF))
  obtain ⟨q1, hq1⟩ : ∃ q : Sb.Pt, q = { p with jt := R1 } := ⟨_, rfl⟩
  rw [← hq1] at BF
  have hW1 := Lib.hid (HW1.out.step OF (by omega))
  have hW2 := Lib.hid (HW2.out.step OF (by omega))
  replace U0 := Lib.hid (OF.bel U0.out (Nat.le_refl _))
  replace B1 := Lib.hid (OF.blk B1.out (by omega))
  replace B0 := Lib.hid BF
  have k2 := Lib.hid fun (W : World) hW => sounds_any q1 (by rw [hq1]; exact hs0) (by rw [hq1]; exact hs1) A2 l2.length c2 (PA q1 A2 l2.length c2) rfl A1 l1 l1.length c1 W rfl hlen1 hW HOK.out
  unfold SoundsR at k2
  rw [HL1.out] at k2
  obtain ⟨q2, hq2⟩ : ∃ q : Sb.Pt, q = { q1 with seed := (Sb.sounds q1.seed R2).1 } := ⟨_, rfl⟩
  rw [← hq2] at k2
  have HQ1 := Lib.hid hq1
  have HQ2 := Lib.hid hq2
  clear hq1 hq2 BF OF HW1 HW2 BJ hs0 hs1
  go_wp2_with (first | (refine wpList_load_part rfl 48 (.tmp 3) rfl (w.heap.size) 0 rfl 48 (PL q1 A2 l2.length c2) B0.out 48 _ Tryz.underlying48 info_port (show 0 + 48 ≤ 48 by decide) (PA q1 A2 l2.length c2) (by rfl) rfl ?_) | fail)
  refine (k2.out _ hW1.out.rows).mono ?_
  rintro e w3 ⟨SA, sc, ls, rfl, hls, hso, hb3⟩
  have hbase : w.heap.size ≤ WF.heap.size := U0.out.size
  replace U0 := Lib.hid (U0.out.later hb3)
  have B03 := Lib.hid (PB.later B0.out hb3)
  have B13 := Lib.hid (B1.out.later hb3)
  replace hW2 := Lib.hid (hW2.out.later hb3)
  have HLS := Lib.hid hls
  have HSO := Lib.hid hso
  have hsz3 := hb3.size
  clear hls hso hb3 hW1 B0 B1
  go_upto_region 6 with (first | (refine wpList_store_part rfl 48 (.tmp 3) (.tmp 32) rfl (w.heap.size) 0 rfl 48 (PL q1 A2 l2.length c2) B03.out (PL q2 A2 l2.length c2) rfl info_port (show 0 + 48 ≤ 48 by decide) rfl (PL q2 A2 l2.length c2) rfl ?_; intro WG BG OG) | fail)
  have hW3 := Lib.hid (hW2.out.step OG (by omega))
  have hsb : w.heap.size < WF.heap.size + 3 := by omega
  replace U0 := Lib.hid (OG.bel U0.out (Nat.le_refl _))
  replace B13 := Lib.hid (OG.blk B13.out (by omega))
  replace HSO := Lib.hid (HSO.out.only OG hsb)
  have HBG := Lib.hid BG
  clear BG OG hW2 B03
  have hg1l : w.heap.size + 1 < WF.heap.size + 3 := by have := hg1'.out; omega
  go_wp2_with (first | (refine wpList_load_part rfl 48 (.tmp 3) rfl (w.heap.size) 0 rfl 48 (PL q2 A2 l2.length c2) HBG.out 48 _ Tryz.underlying48 info_port (show 0 + 48 ≤ 48 by decide) (PA q2 A2 l2.length c2) (by rfl) rfl ?_) | (refine wpList_store_part rfl 48 (.tmp 6) (.tmp 34) rfl (w.heap.size + 1) 0 rfl 48 (PL Sb.Pt.zero none 0 0) B13.out (PL q2 A2 l2.length c2) rfl info_port (show 0 + 48 ≤ 48 by decide) rfl (PL q2 A2 l2.length c2) rfl ?_; intro WH BH OH) | fail)
  have hW4 := (hW3.out.step OH hL).less (lo' := w.heap.size) (by omega)
  refine bodyPost_ret (v := .tuple #[.agg (PA q2 A2 l2.length c2), .int .u8 v, .slice SA l1.length sc, .int .u8 0]) (res_cttt Tryz.results41 rfl (PB.load BH) rfl rfl rfl) rfl ⟨A2, l2.length, c2, l2, SA, sc, l1.length, ls, WF.heap.size + 3, ?_, HL2.out, rfl, hc2, hm2, hW4, ?_, by omega, HSO.out.only OH hg1l, OH.bel U0.out (by omega)⟩
  · rw [HQ2.out, HQ1.out]
  · rw [HLS.out, HQ1.out]
end Go.Proofs.YtahbecinkciahaaGreat
/- Layer 32: Play, at a time that is taken. -/
namespace Go.Proofs.YtahbecinkciahaaGreat
open Go.RowKit
set_option linter.unusedVariables false
set_option linter.unusedSimpArgs false
attribute [local go_sem ↓] run_min_plain run_max_plain
attribute [local go_sem] setCell_drewN alloc_drewN
theorem chkT_zero {p : Sb.Pt} {now : Int} (h : Sb.chkT p now = 0) : p.valid = true ∧ now ≤ 281474976710656 ∧ p.jt.now ≤ now := by
  unfold Sb.chkT at h
  split at h
  · cases h
  · rename_i h1
    split at h
    · cases h
    · rename_i h2
      refine ⟨?_, by omega, by omega⟩
      cases hv : p.valid
      · exact absurd (Or.inl hv) h1
      · rfl
theorem valid_jt {p : Sb.Pt} (h : p.valid = true) : p.jt.ok := by
  unfold Sb.Pt.valid at h
  simp only [Bool.and_eq_true] at h
  have h3 : Jb.valid p.jt = true := h.1.1.2
  unfold Jb.valid at h3
  exact of_decide_eq_true h3
theorem chkT_run {p : Sb.Pt} {now : Int} (h : Sb.chkT p now = 0) : (Jb.run p.jt now).2.2 = 0 ∧ (Jb.run p.jt now).2.1 = Jb.due now p.jt.q := by
  obtain ⟨h1, h2, h3⟩ := chkT_zero h
  have h4 := valid_jt h1
  have h5 : Jb.chk p.jt now true = 0 := by
    unfold Jb.chk
    rw [if_neg (fun hh => by rcases hh with hh | hh | hh; exact hh h4; omega; cases hh), if_neg (by omega)]
  unfold Jb.run
  rw [if_pos h5]
  exact ⟨rfl, rfl⟩
theorem due_okW {now : Int} {q : List Jb.Wt} (h : ∀ a ∈ q, OkW a) : ∀ a ∈ Jb.due now q, OkW a := fun a ha => h a ((List.takeWhile_sublist _).subset ha)
theorem sb_due_len (now : Int) (q : List Jb.Wt) : (Jb.due now q).length ≤ q.length := (List.takeWhile_sublist _).length_le
/-- what Play leaves -/
def PlayV (p : Sb.Pt) (now : Int) (w : World) (e : Ending) (w' : World) : Prop :=
  ∃ (A' : Option Addr) (n' c' : Nat) (l' : List TW) (SA : Option Addr) (sc m : Nat) (ls : List TS) (base : Nat), e = .returned (.tuple #[.agg (PA (Sb.run p now).1 A' n' c'), .slice SA m sc, .int .u8 0]) ∧ l'.map TW.w = (Sb.run p now).1.jt.q ∧ l'.length = n' ∧ n' ≤ c' ∧ c' ≤ maxLen ∧ WtsIn w' w.heap.size w'.heap.size A' l' ∧ ls.map TS.s = (Sb.run p now).2 ∧ w.heap.size ≤ base ∧ SOwn w' base SA m sc ls ∧ Below w.heap.size w w'
set_option maxRecDepth 100000 in
set_option maxHeartbeats 12800000 in
theorem Play_ok (p : Sb.Pt) (hw : p.wf) (A : Option Addr) (l : List TW) (n c : Nat) (X : Array Value) (hX : X = PA p A n c) (w : World) (hq : l.map TW.w = p.jt.q) (hn : l.length = n) (hl : n ≤ 100000) (hcap : n ≤ c) (hcm : c ≤ maxLen) (hA : Wts w w.heap.size A l) (hK : ∀ a ∈ l, I64 a.w.m.sq) (now : Int) (hc : Sb.chkT p now = 0) (hO : ∀ a ∈ p.jt.q, OkW a) : Calls Tryz.prog 15 #[.agg X, .int .i64 now] w (PlayV p now w) := by
  have B0 := Lib.hid ((PB.new w X hX).push (.cells (PA Sb.Pt.zero none 0 0) 48))
  have B1 := Lib.hid (Blk.new1 w (.cells X 48) 48 (PA Sb.Pt.zero none 0 0))
  have U0 := Lib.hid (((Bel.refl w).push (.cells X 48)).push (.cells (PA Sb.Pt.zero none 0 0) 48))
  have HA := Lib.hid ((hA.push (.cells X 48)).push (.cells (PA Sb.Pt.zero none 0 0) 48))
  obtain ⟨r1, r2⟩ := chkT_run hc
  have hm : (Jb.run p.jt now).2.1.length ≤ 100000 := by
    rw [r2]
    have h1 := sb_due_len now p.jt.q
    have h2 := congrArg List.length hq
    simp at h2
    omega
  have k1 := Lib.hid fun (W : World) hW => checkTime_any p hw A l n c (PA p A n c) rfl W hq hn hl hW hK now
  rw [hc] at k1
  have k2 := Lib.hid fun (W : World) hW => playWith_ok p hw A l n c (PA p A n c) rfl W hq hn hl hcap hcm hW hK now 0 r1 (by rw [r2]; exact due_okW hO) hm
  unfold PlayR at k2
  unfold PlayV
  generalize Sb.run p now = R at *
  obtain ⟨q, R2⟩ := R
  clear hX hA hK hq hc hO r1 r2 hm hw
  go_enter Tryz.func15, Tryz.ntmps15
  go_upto_region 1 with fail
  change Code.wp _ _ _ _ ((w.alloc (Obj.cells X 48)).alloc (Obj.cells (PA Sb.Pt.zero none 0 0) 48))
  obtain ⟨W, hW⟩ : ∃ W, W = (w.alloc (Obj.cells X 48)).alloc (Obj.cells (PA Sb.Pt.zero none 0 0) 48) := ⟨_, rfl⟩
  rw [← hW] at B0 B1 U0 HA ⊢
  clear hW
  have hL := B1.out.lt
  go_wp2_with (first | (refine wpList_load_part rfl 48 (.tmp 2) rfl (w.heap.size) 0 rfl 48 (PL p A n c) B0.out 48 _ Tryz.underlying48 info_port (show 0 + 48 ≤ 48 by decide) (PA p A n c) (by rfl) rfl ?_) | fail)
  refine (k1.out _ HA.out).mono ?_
  rintro e w1 ⟨rfl, hb1⟩
  replace U0 := Lib.hid (U0.out.later hb1)
  replace B0 := Lib.hid (B0.out.later hb1)
  replace B1 := Lib.hid (B1.out.later hb1)
  replace HA := Lib.hid (HA.out.later hb1)
  have hL1 := B1.out.lt
  clear hb1
  go_wp2_with (first | (refine wpList_load_part rfl 48 (.tmp 2) rfl (w.heap.size) 0 rfl 48 (PL p A n c) B0.out 48 _ Tryz.underlying48 info_port (show 0 + 48 ≤ 48 by decide) (PA p A n c) (by rfl) rfl ?_) | fail)
  refine (k2.out _ HA.out).mono ?_
  rintro e w2 ⟨A2, n2, c2, l2, SA, sc, m, ls, base, rfl, e1, e2, e3, e4, e5, e6, e7, e8, hb2⟩
  replace U0 := Lib.hid (U0.out.later hb2)
  replace B0 := Lib.hid (B0.out.later hb2)
  replace B1 := Lib.hid (B1.out.later hb2)
  have hus := U0.out.size
  have hs1 := hb2.size
  have HE1 := Lib.hid e1
  have HE5 := Lib.hid e5
  have HE6 := Lib.hid e6
  have HE8 := Lib.hid e8
  clear hb2 HA e1 e5 e6 e8
  subst e2
  go_upto_region 5 with (first | (refine wpList_store_part rfl 48 (.tmp 2) (.tmp 22) rfl (w.heap.size) 0 rfl 48 (PL p A n c) B0.out (PL q A2 l2.length c2) rfl info_port (show 0 + 48 ≤ 48 by decide) rfl (PL q A2 l2.length c2) rfl ?_; intro WG BG OG) | fail)
  replace U0 := Lib.hid (OG.bel U0.out (Nat.le_refl _))
  replace B1 := Lib.hid (OG.blk B1.out (by omega))
  replace HE5 := Lib.hid (HE5.out.step OG (by omega))
  replace HE8 := Lib.hid (HE8.out.only OG (by omega))
  have HBG := Lib.hid BG
  clear BG OG B0
  go_wp2_with (first | (refine wpList_load_part rfl 48 (.tmp 2) rfl (w.heap.size) 0 rfl 48 (PL q A2 l2.length c2) HBG.out 48 _ Tryz.underlying48 info_port (show 0 + 48 ≤ 48 by decide) (PA q A2 l2.length c2) (by rfl) rfl ?_) | (refine wpList_store_part rfl 48 (.tmp 4) (.tmp 26) rfl (w.heap.size + 1) 0 rfl 48 (PL Sb.Pt.zero none 0 0) B1.out (PL q A2 l2.length c2) rfl info_port (show 0 + 48 ≤ 48 by decide) rfl (PL q A2 l2.length c2) rfl ?_; intro WH BH OH) | fail)
  refine bodyPost_ret (v := .tuple #[.agg (PA q A2 l2.length c2), .slice SA m sc, .int .u8 0]) (res_ctt Tryz.results15 rfl (PB.load BH) rfl rfl) rfl ⟨A2, l2.length, c2, l2, SA, sc, m, ls, base, rfl, HE1.out, rfl, e3, e4, (HE5.out.step OH hL1).less (by omega), HE6.out, by omega, HE8.out.only OH (by omega), OH.bel U0.out (by omega)⟩
end Go.Proofs.YtahbecinkciahaaGreat
/- Layer 25: sequence numbers, in the program and in the reference. -/
namespace Go.Proofs.YtahbecinkciahaaGreat
open Go.RowKit
set_option linter.unusedVariables false
set_option linter.unusedSimpArgs false
attribute [local go_sem ↓] run_min_plain run_max_plain
attribute [local go_sem] setCell_drewN alloc_drewN
theorem pk_ret2 {k : IntKind} {a b : Int} (h : a = b) : Ending.returned (.int k a) = .returned (.int k b) := by rw [h]
theorem pk_i64s (x : Int) (h0 : -9223372036854775808 ≤ x) (h1 : x ≤ 9223372036854775807) : IntKind.i64.wrap x = x := by
  by_cases h : 0 ≤ x
  · have e : x % 2 ^ 64 = x := Int.emod_eq_of_lt h (by omega)
    simp only [IntKind.wrap, IntKind.bits, IntKind.signed, e]
    rw [if_neg (by simp; omega)]
  · have e : x % 2 ^ 64 = x + 2 ^ 64 := by omega
    simp only [IntKind.wrap, IntKind.bits, IntKind.signed, e]
    rw [if_pos (by simp; omega)]
    omega
theorem u16_wrap (n : Int) : IntKind.u16.wrap n = n % 65536 := by simp [IntKind.wrap, IntKind.bits, IntKind.signed]
theorem i64_mask16 (z : Int) : bits BinOp.and IntKind.i64 z 65535 = z % 65536 := by
  show IntKind.i64.wrap (((BitVec.ofInt 64 z &&& BitVec.ofInt 64 65535).toNat : Nat) : Int) = _
  have e : (BitVec.ofInt 64 65535).toNat = 2 ^ 16 - 1 := by decide
  rw [BitVec.toNat_and, e, Nat.and_two_pow_sub_one_eq_mod, BitVec.toNat_ofInt]
  have h : (((z % (2 ^ 64 : Nat)).toNat % 2 ^ 16 : Nat) : Int) = z % 65536 := by omega
  rw [h, pk_i64s _ (by omega) (by omega)]
section
variable (last x a b : Int) (w : World)
set_option maxRecDepth 100000 in
set_option maxHeartbeats 1600000 in
theorem near16_any (x0 : 0 ≤ x) (x1 : x ≤ 65535) (l0 : -9223372036854775808 ≤ last) (l1 : last ≤ 9223372036854775807) : Calls Tryz.prog 98 #[.int .i64 last, .int .i64 x, .int .i64 65536] w fun e w' => e = .returned (.int .i64 (Pk.near last x 65536)) ∧ w = w' := by
  obtain ⟨R, hR⟩ : ∃ R, R = Pk.near last x 65536 := ⟨_, rfl⟩
  rw [← hR]
  unfold Pk.near at hR
  by_cases h1 : last < -1152921504606846976
  · rw [if_pos (.inl h1)] at hR
    subst hR
    go_enter Tryz.func98, Tryz.ntmps98
    go_wp2
    go_ret
    exact ⟨rfl, rfl⟩
  by_cases h2 : 1152921504606846976 < last
  · rw [if_pos (.inr h2)] at hR
    subst hR
    go_enter Tryz.func98, Tryz.ntmps98
    go_wp2
    go_ret
    exact ⟨rfl, rfl⟩
  rw [if_neg (by omega)] at hR
  have h1' : -1152921504606846976 ≤ last := by omega
  have h2' : last ≤ 1152921504606846976 := by omega
  have hmk := i64_mask16 (x - last)
  obtain ⟨d, hd⟩ : ∃ d, d = (x - last) % 65536 := ⟨_, rfl⟩
  have hd0 : 0 ≤ d := by omega
  have hd1 : d ≤ 65535 := by omega
  rw [← hd] at hR hmk
  rw [show (65536 : Int) / 2 = 32768 by decide] at hR
  clear h1 h2
  clear hd
  by_cases h3 : 32768 < d
  · rw [if_pos h3] at hR
    have HR := Lib.hid hR
    clear hR
    go_enter Tryz.func98, Tryz.ntmps98
    go_wp2
    go_ret
    exact ⟨pk_ret2 (by have := HR.out; omega), rfl⟩
  · rw [if_neg h3] at hR
    have HR := Lib.hid hR
    have h3' : d ≤ 32768 := by omega
    clear hR h3
    go_enter Tryz.func98, Tryz.ntmps98
    go_wp2
    go_ret
    exact ⟨pk_ret2 (by have := HR.out; omega), rfl⟩
theorem Extend_any (x0 : 0 ≤ x) (x1 : x ≤ 65535) (l0 : -9223372036854775808 ≤ last) (l1 : last ≤ 9223372036854775807) : Calls Tryz.prog 96 #[.int .i64 last, .int .u16 x] w fun e w' => e = .returned (.int .i64 (Pk.near last x 65536)) ∧ w = w' := by
  have k1 := fun W => near16_any last x W x0 x1 l0 l1
  generalize Pk.near last x 65536 = R at *
  have K1 := Lib.hid k1
  clear k1
  go_enter Tryz.func96, Tryz.ntmps96
  go_wp2_with fail
  refine (K1.out _).mono ?_
  rintro e w1 ⟨rfl, rfl⟩
  go_wp2
  go_ret
  exact ⟨rfl, rfl⟩
end
end Go.Proofs.YtahbecinkciahaaGreat

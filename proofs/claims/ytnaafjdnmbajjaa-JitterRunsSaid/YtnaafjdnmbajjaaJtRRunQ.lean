/- Layer 30: Run of the reference. -/
import Derived.Test.YtnaafjdnmbajjaaJtLensQ
import Derived.Test.YtnaafjdnmbajjaaJtRunQ
import Derived.Test.YtnaafjdnmbajjaaJtNewQ
import Derived.Test.YtnaafjdnmbajjaaJtMeas3Q
import Derived.Deep.RegionHeld3
import Derived.BigQuiet
import Derived.Deep.QuietTactic
import Derived.RegionTactic
namespace Go.Proofs.Ytnaafjdnmbajjaa
open Go.RowKit
set_option linter.unusedVariables false
set_option linter.unusedSimpArgs false
attribute [local go_sem ↓] run_min_plain run_max_plain
attribute [local go_sem] setCell_drewN alloc_drewN
set_option maxRecDepth 100000 in
set_option maxHeartbeats 12800000 in
theorem rrun_let (le mo nw : Int) (on : Bool) (ze fi hi dn sp tr : Int) (A : Option Addr) (l : List TW) (n qc : Nat) (la tw pd : Int) (now : Int) (w : World) (hn : l.length = n) (hl : n ≤ 100000) (hcap : n ≤ qc) (hcm : qc ≤ maxLen) (hA : Wts w w.heap.size A l) (hP : ∀ a ∈ l, a.w.m.pl.length ≤ 1000000000) : Calls Try.prog 14 #[.agg #[.int .i64 le, .int .i64 mo, .int .i64 nw, .bool on, .int .i64 ze, .int .i64 fi, .int .i64 hi, .int .i64 dn, .int .i64 sp, .int .i64 tr, .slice A n qc, .int .i64 la, .int .i64 tw, .int .i64 pd], .int .i64 now] w (JRunR ⟨le, mo, nw, on, ze, fi, hi, dn, sp, tr, l.map TW.w, la, tw, pd⟩ now w) := by
  subst hn
  obtain ⟨r, hr⟩ : ∃ r, r = Jb.chk ⟨le, mo, nw, on, ze, fi, hi, dn, sp, tr, l.map TW.w, la, tw, pd⟩ now true := ⟨_, rfl⟩
  have HR := Lib.hid hr
  have k1 := Lib.hid fun (W : World) (hW : Bel w W) => rcheck_any le mo nw on ze fi hi dn sp tr A l l.length qc la tw pd now true W rfl hl ((hA.below hW).more hW.size) hP r hr
  have U0 := Lib.hid (((Bel.refl w).push (.cells #[.int .i64 le, .int .i64 mo, .int .i64 nw, .bool on, .int .i64 ze, .int .i64 fi, .int .i64 hi, .int .i64 dn, .int .i64 sp, .int .i64 tr, .slice A l.length qc, .int .i64 la, .int .i64 tw, .int .i64 pd] 26)).push (.cells #[.int .i64 0, .int .i64 0, .int .i64 0, .bool false, .int .i64 0, .int .i64 0, .int .i64 0, .int .i64 0, .int .i64 0, .int .i64 0, .slice none 0 0, .int .i64 0, .int .i64 0, .int .i64 0] 26))
  have BS := Lib.hid ((Blk.new w 26 #[.int .i64 le, .int .i64 mo, .int .i64 nw, .bool on, .int .i64 ze, .int .i64 fi, .int .i64 hi, .int .i64 dn, .int .i64 sp, .int .i64 tr, .slice A l.length qc, .int .i64 la, .int .i64 tw, .int .i64 pd]).push (.cells #[.int .i64 0, .int .i64 0, .int .i64 0, .bool false, .int .i64 0, .int .i64 0, .int .i64 0, .int .i64 0, .int .i64 0, .int .i64 0, .slice none 0 0, .int .i64 0, .int .i64 0, .int .i64 0] 26))
  have BR := Lib.hid (Blk.new1 w (.cells #[.int .i64 le, .int .i64 mo, .int .i64 nw, .bool on, .int .i64 ze, .int .i64 fi, .int .i64 hi, .int .i64 dn, .int .i64 sp, .int .i64 tr, .slice A l.length qc, .int .i64 la, .int .i64 tw, .int .i64 pd] 26) 26 #[.int .i64 0, .int .i64 0, .int .i64 0, .bool false, .int .i64 0, .int .i64 0, .int .i64 0, .int .i64 0, .int .i64 0, .int .i64 0, .slice none 0 0, .int .i64 0, .int .i64 0, .int .i64 0])
  have HA := Lib.hid hA
  clear hr hA hP
  by_cases hr0 : r = 0
  rotate_left
  · have hne : (r != 0) = true := by simpa using hr0
    have HN := Lib.hid hr0
    clear hr0
    go_enter Try.func14, Try.ntmps14
    go_wp2_with fail
    refine (k1.out _ U0.out).mono ?_
    rintro e w1 ⟨rfl, hb1⟩
    have U1 := Lib.hid (U0.out.later hb1)
    have BS1 := Lib.hid (BS.out.later hb1)
    have BR1 := Lib.hid (BR.out.later hb1)
    have hs1 := BR1.out.lt
    clear hb1
    have s0 := (BS1.out).at 0 _ rfl
    have s1 := (BS1.out).at 1 _ rfl
    have s2 := (BS1.out).at 2 _ rfl
    have s3 := (BS1.out).at 3 _ rfl
    have s4 := (BS1.out).at 4 _ rfl
    have s5 := (BS1.out).at 5 _ rfl
    have s6 := (BS1.out).at 6 _ rfl
    have s7 := (BS1.out).at 7 _ rfl
    have s8 := (BS1.out).at 8 _ rfl
    have s9 := (BS1.out).at 9 _ rfl
    have s10 := (BS1.out).at 10 _ rfl
    have s11 := (BS1.out).at 11 _ rfl
    have s12 := (BS1.out).at 12 _ rfl
    have s13 := (BS1.out).at 13 _ rfl
    go_wp2_with fail
    refine (k1.out _ U1.out).mono ?_
    rintro e w2 ⟨rfl, hb2⟩
    have U2 := Lib.hid (U1.out.later hb2)
    have BR2 := Lib.hid (BR1.out.later hb2)
    clear hb2 s0 s1 s2 s3 s4 s5 s6 s7 s8 s9 s10 s11 s12 s13
    have r0 := (BR2.out).at 0 _ rfl
    have r1 := (BR2.out).at 1 _ rfl
    have r2 := (BR2.out).at 2 _ rfl
    have r3 := (BR2.out).at 3 _ rfl
    have r4 := (BR2.out).at 4 _ rfl
    have r5 := (BR2.out).at 5 _ rfl
    have r6 := (BR2.out).at 6 _ rfl
    have r7 := (BR2.out).at 7 _ rfl
    have r8 := (BR2.out).at 8 _ rfl
    have r9 := (BR2.out).at 9 _ rfl
    have r10 := (BR2.out).at 10 _ rfl
    have r11 := (BR2.out).at 11 _ rfl
    have r12 := (BR2.out).at 12 _ rfl
    have r13 := (BR2.out).at 13 _ rfl
    have rfz := BR2.out.frozen
    go_wp2_with fail
    have BF := Blk.setRow BR2.out [.int .i64 0, .int .i64 0, .int .i64 0, .bool false, .int .i64 0, .int .i64 0, .int .i64 0, .int .i64 0, .int .i64 0, .int .i64 0, .slice none 0 0, .int .i64 0, .int .i64 0, .int .i64 0] rfl
    have UF := below_setRow (g := w.heap.size + 1) (by omega) [.int .i64 0, .int .i64 0, .int .i64 0, .bool false, .int .i64 0, .int .i64 0, .int .i64 0, .int .i64 0, .int .i64 0, .int .i64 0, .slice none 0 0, .int .i64 0, .int .i64 0, .int .i64 0] _ 0 U2.out
    simp only [setRow, Nat.zero_add, Nat.reduceAdd] at BF UF
    have hrun : Jb.run ⟨le, mo, nw, on, ze, fi, hi, dn, sp, tr, l.map TW.w, la, tw, pd⟩ now = (Jb.Jt.none, [], r) := by unfold Jb.run; rw [← HR.out, if_neg HN.out]
    refine bodyPost_ret (v := .tuple #[.agg (List.toArray [.int .i64 0, .int .i64 0, .int .i64 0, .bool false, .int .i64 0, .int .i64 0, .int .i64 0, .int .i64 0, .int .i64 0, .int .i64 0, .slice none 0 0, .int .i64 0, .int .i64 0, .int .i64 0]), .slice none 0 0, .int .u8 r]) (res_ctt Try.results14 rfl (run_loadVar_row (P := Try.prog) _ _ _ _ _ _ _ BF Try.underlying26 rfl (by kernel_rfl)) rfl rfl) rfl ⟨none, 0, [], none, 0, [], ?_, ?_, ?_, Wts.empty, Wts.empty, Nat.le_refl _, by unfold maxLen; omega, UF⟩
    · rw [hrun]; rfl
    · rw [hrun]; rfl
    · rw [hrun]; rfl
  subst hr0
  obtain ⟨hok, hnow, _, hlt⟩ := chk_zero HR.out.symm
  obtain ⟨hl2, hpl⟩ := ok_small (l := l) hok rfl
  have hpd := hok.2.2.1.2.2
  have hasc := Jb.okQ.asc hok.2.2.2.2
  simp only at hpd hlt hasc
  obtain ⟨hpd0, hpd1⟩ := hpd
  have hrun : Jb.run ⟨le, mo, nw, on, ze, fi, hi, dn, sp, tr, l.map TW.w, la, tw, pd⟩ now = (Jb.run0 ⟨le, mo, nw, on, ze, fi, hi, dn, sp, tr, l.map TW.w, la, tw, pd⟩ now, Jb.due now (l.map TW.w), 0) := by unfold Jb.run; rw [← HR.out, if_pos rfl]
  have HRUN := Lib.hid hrun
  have HD := Lib.hid (dueT_due (now := now) hasc)
  clear hok hnow hlt hpl hrun hasc
  go_enter Try.func14, Try.ntmps14
  go_wp2_with fail
  refine (k1.out _ U0.out).mono ?_
  rintro e w1 ⟨rfl, hb1⟩
  have U1 := Lib.hid (U0.out.later hb1)
  have BS1 := Lib.hid (BS.out.later hb1)
  have BR1 := Lib.hid (BR.out.later hb1)
  have hs1 := BR1.out.lt
  clear hb1
  have s0 := (BS1.out).at 0 _ rfl
  have s1 := (BS1.out).at 1 _ rfl
  have s2 := (BS1.out).at 2 _ rfl
  have s3 := (BS1.out).at 3 _ rfl
  have s4 := (BS1.out).at 4 _ rfl
  have s5 := (BS1.out).at 5 _ rfl
  have s6 := (BS1.out).at 6 _ rfl
  have s7 := (BS1.out).at 7 _ rfl
  have s8 := (BS1.out).at 8 _ rfl
  have s9 := (BS1.out).at 9 _ rfl
  have s10 := (BS1.out).at 10 _ rfl
  have s11 := (BS1.out).at 11 _ rfl
  have s12 := (BS1.out).at 12 _ rfl
  have s13 := (BS1.out).at 13 _ rfl
  go_wp2_with fail
  have RS : RSt w w1 [.int .i64 le, .int .i64 mo, .int .i64 nw, .bool on, .int .i64 ze, .int .i64 fi, .int .i64 hi, .int .i64 dn, .int .i64 sp, .int .i64 tr, .slice A l.length qc, .int .i64 la, .int .i64 tw, .int .i64 pd] none 0 0 [] none 0 0 [] := ⟨BS1.out, BR1.out, U1.out, Owns.nil, Owns.nil, rfl, rfl, (fun g e => by cases e), by have := BR1.out.lt; omega⟩
  have RS0 := Lib.hid RS
  clear RS BS1 BR1 U1 k1 BS BR U0 s0 s1 s2 s3 s4 s5 s6 s7 s8 s9 s10 s11 s12 s13
  go_loopg [7, 8, 9] l.length (fun gk s7 s8 i wr => ∃ (k : Nat) (A1 : Option Addr) (n1 c1 : Nat) (A2 : Option Addr) (n2 c2 : Nat) (d : Int), gk + k = l.length ∧ s7 = .slice A1 n1 c1 ∧ s8 = .slice A2 n2 c2 ∧ i = .int .i64 k ∧ Hid (d = (Jb.maxSq dn (((l.take k).filter (dueT now)).map TW.w))) ∧ Hid (RSt w wr [.int .i64 le, .int .i64 mo, .int .i64 nw, .bool on, .int .i64 ze, .int .i64 fi, .int .i64 hi, .int .i64 d, .int .i64 sp, .int .i64 tr, .slice A l.length qc, .int .i64 la, .int .i64 tw, .int .i64 pd] A1 n1 c1 ((l.take k).filter (dueT now)) A2 n2 c2 ((l.take k).filter (fun a => !dueT now a))))
  case atStart => exact ⟨0, none, 0, 0, none, 0, 0, dn, rfl, rfl, rfl, rfl, Lib.hid rfl, RS0⟩
  case round =>
    obtain ⟨k, A1, n1, c1, A2, n2, c2, d, hgk, rfl, rfl, rfl, HDN, RS⟩ := hrel
    have hi0 : (0 : Int) ≤ (k : Int) := by omega
    have hwl := RS.out.bs.lt
    have hn1 : n1 ≤ k := by rw [← RS.out.len1]; exact Nat.le_trans (List.length_filter_le _ _) (List.length_take_le _ _)
    have hn2 : n2 ≤ k := by rw [← RS.out.len2]; exact Nat.le_trans (List.length_filter_le _ _) (List.length_take_le _ _)
    have s0 := (RS.out.bs).at 0 _ rfl
    have s1 := (RS.out.bs).at 1 _ rfl
    have s2 := (RS.out.bs).at 2 _ rfl
    have s3 := (RS.out.bs).at 3 _ rfl
    have s4 := (RS.out.bs).at 4 _ rfl
    have s5 := (RS.out.bs).at 5 _ rfl
    have s6 := (RS.out.bs).at 6 _ rfl
    have s7 := (RS.out.bs).at 7 _ rfl
    have s8 := (RS.out.bs).at 8 _ rfl
    have s9 := (RS.out.bs).at 9 _ rfl
    have s10 := (RS.out.bs).at 10 _ rfl
    have s11 := (RS.out.bs).at 11 _ rfl
    have s12 := (RS.out.bs).at 12 _ rfl
    have s13 := (RS.out.bs).at 13 _ rfl
    have sfz := RS.out.bs.frozen
    by_cases hk : k < l.length
    rotate_left
    · obtain rfl : k = l.length := by omega
      have hi1 : (l.length : Int) ≤ (l.length : Int) := Int.le_refl _
      have hpx : -9223372036854775808 ≤ pd + (n1 : Int) ∧ pd + (n1 : Int) ≤ 9223372036854775807 := by omega
      obtain ⟨hp0, hp1⟩ := hpx
      have r0 := (RS.out.br).at 0 _ rfl
      have r1 := (RS.out.br).at 1 _ rfl
      have r2 := (RS.out.br).at 2 _ rfl
      have r3 := (RS.out.br).at 3 _ rfl
      have r4 := (RS.out.br).at 4 _ rfl
      have r5 := (RS.out.br).at 5 _ rfl
      have r6 := (RS.out.br).at 6 _ rfl
      have r7 := (RS.out.br).at 7 _ rfl
      have r8 := (RS.out.br).at 8 _ rfl
      have r9 := (RS.out.br).at 9 _ rfl
      have r10 := (RS.out.br).at 10 _ rfl
      have r11 := (RS.out.br).at 11 _ rfl
      have r12 := (RS.out.br).at 12 _ rfl
      have r13 := (RS.out.br).at 13 _ rfl
      have rfz := RS.out.br.frozen
      have hlr := RS.out.br.lt
      go_wp2_with fail
      have RF : RSt w _ [.int .i64 le, .int .i64 mo, .int .i64 now, .bool on, .int .i64 ze, .int .i64 fi, .int .i64 hi, .int .i64 d, .int .i64 sp, .int .i64 tr, .slice A2 n2 c2, .int .i64 la, .int .i64 tw, .int .i64 (pd + (n1 : Int))] A1 n1 c1 _ A2 n2 c2 _ := ((RS.out.set 10 (.slice A2 n2 c2)).set 13 (.int .i64 (pd + (n1 : Int)))).set 2 (.int .i64 now)
      have hPP : ∀ (p : TW → Bool), ∀ a ∈ (l.take l.length).filter p, IntsAt w w.heap.size .u8 a.B a.w.m.pl := fun p a ha => HA.out.2 a (List.mem_of_mem_take (List.mem_filter.1 ha).1)
      obtain ⟨BF, F1, F2, F4, F5, UF⟩ := RF.fin [.int .i64 le, .int .i64 mo, .int .i64 now, .bool on, .int .i64 ze, .int .i64 fi, .int .i64 hi, .int .i64 d, .int .i64 sp, .int .i64 tr, .slice A2 n2 c2, .int .i64 la, .int .i64 tw, .int .i64 (pd + (n1 : Int))] rfl (hPP _) (hPP _)
      simp only [setRow, Nat.zero_add, Nat.reduceAdd] at BF F1 F2 UF
      have hd := HDN.out
      have hE1 := RS.out.len1
      have hE2 := RS.out.len2
      rw [List.take_length] at F1 F2 hd hE1 hE2
      obtain ⟨D1, D2⟩ := HD.out
      have hR0 : Jb.run0 ⟨le, mo, nw, on, ze, fi, hi, dn, sp, tr, l.map TW.w, la, tw, pd⟩ now = ⟨le, mo, now, on, ze, fi, hi, d, sp, tr, Jb.left now (l.map TW.w), la, tw, pd + (n1 : Int)⟩ := by
        unfold Jb.run0
        rw [hd, D1, ← hE1, ← D1, List.length_map]
      refine bodyPost_ret (v := .tuple #[.agg (List.toArray [.int .i64 le, .int .i64 mo, .int .i64 now, .bool on, .int .i64 ze, .int .i64 fi, .int .i64 hi, .int .i64 d, .int .i64 sp, .int .i64 tr, .slice A2 n2 c2, .int .i64 la, .int .i64 tw, .int .i64 (pd + (n1 : Int))]), .slice A1 n1 c1, .int .u8 0]) (res_ctt Try.results14 rfl (run_loadVar_row (P := Try.prog) _ _ _ _ _ _ _ BF Try.underlying26 rfl (by kernel_rfl)) rfl rfl) rfl ⟨A1, c1, l.filter (dueT now), A2, c2, l.filter (fun a => !dueT now a), ?_, ?_, ?_, F1, F2, by rw [hE2]; exact F4, F5, UF⟩
      · rw [HRUN.out, hR0, hE1, hE2]; rfl
      · rw [HRUN.out]; exact D1
      · rw [HRUN.out, hR0]; exact D2
    have hi1 : (k : Int) < (l.length : Int) := by omega
    obtain ⟨a, ha⟩ : ∃ a, l[k]? = some a := ⟨_, List.getElem?_eq_getElem hk⟩
    obtain ⟨b, off, rfl, hbB, e0, e1, e2, e3, e4, e5⟩ := rowsW (HA.out.1.keep (fun p hp => RS.out.u.cell hp)) ha
    have HT1 := Lib.hid (take_one ha (dueT now))
    have HT2 := Lib.hid (take_one ha (fun a => !dueT now a))
    obtain ⟨⟨at0, ⟨sq0, ti0, mk0, ty0, pl0⟩⟩, B0, c0⟩ := a
    simp only at e0 e1 e2 e3 e4 e5
    have hbw : b < wr.heap.size := by have := RS.out.u.size; omega
    clear ha
    by_cases c : at0 ≤ now
    · have hat0 : at0 ≤ now := c
      have HDUE : Hid (dueT now ⟨⟨at0, ⟨sq0, ti0, mk0, ty0, pl0⟩⟩, B0, c0⟩ = true) := Lib.hid (by unfold dueT; simpa using c)
      clear c
      go_wp2_with (at_builtin; go_loud (refine wpList_append_at rfl _ _ 24 rfl (w.heap.size + 1 + 1) 50 6 56 (.agg #[.int .i64 0, .int .i64 0, .int .i64 0, .bool false, .int .u8 0, .slice none 0 0]) Try.underlying24 info_w rfl (by decide) A1 n1 c1 _ rfl RS.out.o1 [.int .i64 at0, .int .i64 sq0, .int .i64 ti0, .bool mk0, .int .u8 ty0, .slice B0 pl0.length c0] rfl (by simp [Value.oneCell']) rfl (by unfold maxLen; omega) (by omega) RS.out.hB ?_); intro An cn wn hown hgr hat)
      have RS2 : RSt w wn [.int .i64 le, .int .i64 mo, .int .i64 nw, .bool on, .int .i64 ze, .int .i64 fi, .int .i64 hi, .int .i64 d, .int .i64 sp, .int .i64 tr, .slice (some ⟨b, off, none⟩) l.length qc, .int .i64 la, .int .i64 tw, .int .i64 pd] An (n1 + 1) cn (((l.take k).filter (dueT now)) ++ [⟨⟨at0, ⟨sq0, ti0, mk0, ty0, pl0⟩⟩, B0, c0⟩]) A2 n2 c2 ((l.take k).filter (fun a => !dueT now a)) := RS.out.one hown hgr hat
      have HRS2 := Lib.hid RS2
      have hwl2 := RS2.bs.lt
      obtain ⟨f0, f1, f2, f3, f4, f5⟩ : wn.cell? ⟨b, off + k * 6, none⟩ = some (.int .i64 at0) ∧ wn.cell? ⟨b, off + k * 6 + 1, none⟩ = some (.int .i64 sq0) ∧ wn.cell? ⟨b, off + k * 6 + 2, none⟩ = some (.int .i64 ti0) ∧ wn.cell? ⟨b, off + k * 6 + 3, none⟩ = some (.bool mk0) ∧ wn.cell? ⟨b, off + k * 6 + 4, none⟩ = some (.int .u8 ty0) ∧ wn.cell? ⟨b, off + k * 6 + 5, none⟩ = some (.slice B0 pl0.length c0) := by
        have hx : some b ≠ ownB A1 := fun e => by have := (RS.out.o1.block b e.symm).1; omega
        exact ⟨hgr.cell e0 hx, hgr.cell e1 hx, hgr.cell e2 hx, hgr.cell e3 hx, hgr.cell e4 hx, hgr.cell e5 hx⟩
      clear RS2 hown hgr hat e0 e1 e2 e3 e4 e5 s0 s1 s2 s3 s4 s5 s6 s7 s8 s9 s10 s11 s12 s13 sfz
      have s0 := (HRS2.out.bs).at 0 _ rfl
      have s1 := (HRS2.out.bs).at 1 _ rfl
      have s2 := (HRS2.out.bs).at 2 _ rfl
      have s3 := (HRS2.out.bs).at 3 _ rfl
      have s4 := (HRS2.out.bs).at 4 _ rfl
      have s5 := (HRS2.out.bs).at 5 _ rfl
      have s6 := (HRS2.out.bs).at 6 _ rfl
      have s7 := (HRS2.out.bs).at 7 _ rfl
      have s8 := (HRS2.out.bs).at 8 _ rfl
      have s9 := (HRS2.out.bs).at 9 _ rfl
      have s10 := (HRS2.out.bs).at 10 _ rfl
      have s11 := (HRS2.out.bs).at 11 _ rfl
      have s12 := (HRS2.out.bs).at 12 _ rfl
      have s13 := (HRS2.out.bs).at 13 _ rfl
      have sfz := HRS2.out.bs.frozen
      go_wp2_with fail
      go_region
      all_goals
        go_wp2_with fail
        go_roundg (gk - 1)
        case measure => omega
        case rel =>
          refine ⟨k + 1, An, n1 + 1, cn, A2, n2, c2, max d sq0, by omega, rfl, rfl, by go_num, Lib.hid ?_, Lib.hid ?_⟩
          · rw [HT1.out.1 HDUE.out, List.map_append, List.map_singleton, maxSq_snoc2, ← HDN.out]
          · rw [HT1.out.1 HDUE.out, HT2.out.2 (by simp only [HDUE.out]; rfl)]
            exact (HRS2.out.drewN _).set 7 (.int .i64 (max d sq0))
    · have hat0 : now < at0 := Int.not_le.1 c
      have HDUE : Hid (dueT now ⟨⟨at0, ⟨sq0, ti0, mk0, ty0, pl0⟩⟩, B0, c0⟩ = false) := Lib.hid (by unfold dueT; simpa using c)
      clear c
      go_wp2_with (at_builtin; go_loud (refine wpList_append_at rfl _ _ 24 rfl (w.heap.size + 1 + 1) 50 6 56 (.agg #[.int .i64 0, .int .i64 0, .int .i64 0, .bool false, .int .u8 0, .slice none 0 0]) Try.underlying24 info_w rfl (by decide) A2 n2 c2 _ rfl RS.out.o2 [.int .i64 at0, .int .i64 sq0, .int .i64 ti0, .bool mk0, .int .u8 ty0, .slice B0 pl0.length c0] rfl (by simp [Value.oneCell']) rfl (by unfold maxLen; omega) (by omega) RS.out.hB ?_); intro An cn wn hown hgr hat)
      have RS2 : RSt w wn [.int .i64 le, .int .i64 mo, .int .i64 nw, .bool on, .int .i64 ze, .int .i64 fi, .int .i64 hi, .int .i64 d, .int .i64 sp, .int .i64 tr, .slice (some ⟨b, off, none⟩) l.length qc, .int .i64 la, .int .i64 tw, .int .i64 pd] A1 n1 c1 ((l.take k).filter (dueT now)) An (n2 + 1) cn (((l.take k).filter (fun a => !dueT now a)) ++ [⟨⟨at0, ⟨sq0, ti0, mk0, ty0, pl0⟩⟩, B0, c0⟩]) := (RS.out.swap.one hown hgr hat).swap
      have HRS2 := Lib.hid RS2
      clear RS2 hown hgr hat
      go_wp2_with fail
      go_roundg (gk - 1)
      case measure => omega
      case rel =>
        refine ⟨k + 1, A1, n1, c1, An, n2 + 1, cn, d, by omega, rfl, rfl, by go_num, Lib.hid ?_, Lib.hid ?_⟩
        · rw [HT1.out.2 HDUE.out, ← HDN.out]
        · rw [HT1.out.2 HDUE.out, HT2.out.1 (by simp only [HDUE.out]; rfl)]
          exact HRS2.out
theorem rrun_st (s : Jb.Jt) (A : Option Addr) (l : List TW) (n c : Nat) (now : Int) (w : World) (hq : l.map TW.w = s.q) (hn : l.length = n) (hl : n ≤ 100000) (hcap : n ≤ c) (hcm : c ≤ maxLen) (hA : Wts w w.heap.size A l) (hP : ∀ a ∈ l, a.w.m.pl.length ≤ 1000000000) : Calls Try.prog 14 #[.agg #[.int .i64 s.least, .int .i64 s.most, .int .i64 s.now, .bool s.on, .int .i64 s.zero, .int .i64 s.first, .int .i64 s.high, .int .i64 s.done, .int .i64 s.spread, .int .i64 s.trans, .slice A n c, .int .i64 s.late, .int .i64 s.twice, .int .i64 s.played], .int .i64 now] w (JRunR s now w) := by
  obtain ⟨le, mo, nw, on, ze, fi, hi, dn, sp, tr, q, la, tw, pd⟩ := s
  simp only at hq ⊢
  subst hq
  exact rrun_let le mo nw on ze fi hi dn sp tr A l n c la tw pd now w hn hl hcap hcm hA hP
end Go.Proofs.Ytnaafjdnmbajjaa
/- Layer 30: what is taken waits till its time comes; no program in sight. -/
namespace Go.Proofs.Ytnaafjdnmbajjaa.Jb
open Go.RowKit
set_option linter.unusedVariables false
theorem play_eq (s : Jt) (t : Int) (h : s.ok) (h1 : -281474976710656 ≤ t) (h2 : t ≤ 281474976710656) : play s t = ptime s t := by
  unfold play
  rw [if_pos ⟨h, h1, h2⟩]
/-- what a call of Put answers, as the law asks for it -/
theorem put0_cases (s : Jt) (m : Md) (h : s.ok) (hm : m.ok) (hl : s.late < 281474976710656) (ht : s.twice < 281474976710656) :
    ((put0 s m).2 = 1 ∧ s.now < play (put0 s m).1 m.ti ∧ play (put0 s m).1 m.ti ≤ s.now + 120000 ∧ (put0 s m).1.q = ins s.q ⟨play (put0 s m).1 m.ti, m⟩ ∧ (s.q.any fun w => w.m.sq == m.sq) = false) ∨
    ((put0 s m).2 ≠ 1 ∧ (put0 s m).2 ≠ 0 ∧ (put0 s m).1.q = s.q ∧ (s.now < play (put0 s m).1 m.ti → play (put0 s m).1 m.ti ≤ s.now + 120000 → (put0 s m).1.done < m.sq → (s.q.any fun w => w.m.sq == m.sq) = false → ¬s.q.length < 200)) := by
  have hok := put0_ok s m h hm hl ht
  have hp := play_eq _ m.ti hok hm.2.1.1 hm.2.1.2
  rw [hp]
  clear hp hok
  by_cases h1 : (s.q.any fun w => w.m.sq == m.sq) = true
  · right
    have e : put0 s m = ({ s with twice := s.twice + 1 }, 3) := by unfold put0; rw [if_pos h1]
    rw [e]
    exact ⟨by simp, by simp, rfl, fun _ _ _ h2 => by rw [h1] at h2; cases h2⟩
  by_cases h2 : s.on = true ∧ m.sq ≤ s.done
  · right
    have e : put0 s m = ({ s with late := s.late + 1 }, 2) := by unfold put0; rw [if_neg h1, if_pos h2]
    rw [e]
    exact ⟨by simp, by simp, rfl, fun _ _ h3 => by have h4 : s.done < m.sq := h3; omega⟩
  by_cases h3 : 200 ≤ s.q.length
  · right
    have e : put0 s m = (s, 4) := by unfold put0; rw [if_neg h1, if_neg h2, if_pos h3]
    rw [e]
    exact ⟨by simp, by simp, rfl, fun _ _ _ _ => by show ¬s.q.length < 200; omega⟩
  by_cases h4 : ptime (meas s m) m.ti ≤ s.now
  · right
    have e : put0 s m = ({ (meas s m) with late := (meas s m).late + 1 }, 2) := by unfold put0; rw [if_neg h1, if_neg h2, if_neg h3]; dsimp only; rw [if_pos h4]
    rw [e]
    exact ⟨by simp, by simp, rfl, fun h5 => by have h6 : s.now < ptime (meas s m) m.ti := h5; omega⟩
  by_cases h5 : s.now + 120000 < ptime (meas s m) m.ti
  · right
    have e : put0 s m = (meas s m, 5) := by unfold put0; rw [if_neg h1, if_neg h2, if_neg h3]; dsimp only; rw [if_neg h4, if_pos h5]
    rw [e]
    exact ⟨by simp, by simp, rfl, fun _ h6 => by have h7 : ptime (meas s m) m.ti ≤ s.now + 120000 := h6; omega⟩
  · left
    have e : put0 s m = ({ (meas s m) with q := ins (meas s m).q ⟨ptime (meas s m) m.ti, m⟩ }, 1) := by unfold put0; rw [if_neg h1, if_neg h2, if_neg h3]; dsimp only; rw [if_neg h4, if_neg h5]
    rw [e]
    exact ⟨rfl, by show s.now < ptime (meas s m) m.ti; omega, by show ptime (meas s m) m.ti ≤ s.now + 120000; omega, rfl, by simpa using h1⟩
/-- the law's own insertion: ahead of the first that stands behind -/
def ins' (q : List Wt) (w : Wt) : List Wt := q.takeWhile (fun x => !decide (bef w x)) ++ w :: q.dropWhile (fun x => !decide (bef w x))
theorem while_congr {α : Type} (p r : α → Bool) : ∀ l : List α, (∀ x ∈ l, p x = r x) → l.takeWhile p = l.takeWhile r ∧ l.dropWhile p = l.dropWhile r
  | [], _ => ⟨rfl, rfl⟩
  | a :: l, h => by
    obtain ⟨h1, h2⟩ := while_congr p r l (fun x hx => h x (List.mem_cons_of_mem _ hx))
    have ha := h a List.mem_cons_self
    rw [List.takeWhile_cons, List.takeWhile_cons, List.dropWhile_cons, List.dropWhile_cons, ha, h1, h2]
    exact ⟨rfl, rfl⟩
theorem ins_ins' (q : List Wt) (w : Wt) (h : (q.any fun x => x.m.sq == w.m.sq) = false) : ins q w = ins' q w := by
  have hd : ∀ x ∈ q, decide (bef x w) = !decide (bef w x) := fun x hx => by
    have hne : x.m.sq ≠ w.m.sq := fun e => by
      have : (q.any fun x => x.m.sq == w.m.sq) = true := List.any_eq_true.2 ⟨x, hx, by simpa using e⟩
      rw [h] at this; cases this
    rw [Bool.eq_iff_iff]
    simp only [decide_eq_true_eq, Bool.not_eq_true', decide_eq_false_iff_not]
    unfold bef
    omega
  obtain ⟨h1, h2⟩ := while_congr _ _ q hd
  unfold ins ins'
  rw [h1, h2]
/-- all that waits is due within two minutes -/
def Near (now : Int) (q : List Wt) : Prop := ∀ w ∈ q, w.at_ ≤ now + 120000
theorem near_left {now now' : Int} {q : List Wt} (h : Near now q) (hn : now ≤ now') : Near now' (left now' q) := fun w hw => by
  have := h w ((left_sub now' q).subset hw)
  omega
theorem near_ins {now : Int} {q : List Wt} {w : Wt} (h : Near now q) (hw : w.at_ ≤ now + 120000) : Near now (ins q w) := fun x hx => by
  rcases List.mem_cons.1 ((ins_perm q w).subset hx) with rfl | hx
  · exact hw
  · exact h x hx
theorem near_empty {now : Int} {q : List Wt} (h : Near now q) (hq : q.Pairwise bef) : left (now + 1000000) q = [] := by
  apply List.eq_nil_iff_forall_not_mem.2
  intro w hw
  have h1 := left_gt (now + 1000000) q hq w hw
  have h2 := h w ((left_sub _ q).subset hw)
  omega
end Go.Proofs.Ytnaafjdnmbajjaa.Jb
namespace Go.Proofs.Ytnaafjdnmbajjaa.Jb
open Go.RowKit
set_option linter.unusedVariables false
theorem put0_cnt (s : Jt) (m : Md) : (put0 s m).1.late ≤ s.late + 1 ∧ (put0 s m).1.twice ≤ s.twice + 1 ∧ (put0 s m).1.played = s.played ∧ (put0 s m).1.now = s.now ∧ (put0 s m).1.least = s.least ∧ (put0 s m).1.most = s.most := by
  unfold put0
  split
  · exact ⟨by show s.late ≤ _; omega, Int.le_refl _, rfl, rfl, rfl, rfl⟩
  split
  · exact ⟨Int.le_refl _, by show s.twice ≤ _; omega, rfl, rfl, rfl, rfl⟩
  split
  · exact ⟨by show s.late ≤ _; omega, by show s.twice ≤ _; omega, rfl, rfl, rfl, rfl⟩
  dsimp only
  split
  · exact ⟨Int.le_refl _, by show s.twice ≤ _; omega, rfl, rfl, rfl, rfl⟩
  split
  · exact ⟨by show s.late ≤ _; omega, by show s.twice ≤ _; omega, rfl, rfl, rfl, rfl⟩
  · exact ⟨by show s.late ≤ _; omega, by show s.twice ≤ _; omega, rfl, rfl, rfl, rfl⟩
/-- a state of a stream that is not long: it is valid, and its counts are small -/
structure Small (n : Int) (s : Jt) : Prop where
  ok : s.ok
  late : s.late ≤ n
  twice : s.twice ≤ n
  played : s.played ≤ 200 * n
theorem small_new (l m : Int) (h : cfg l m) : Small 0 (new l m).1 := by
  refine ⟨new_ok l m h, ?_, ?_, ?_⟩ <;> (unfold new; rw [if_pos h]; exact Int.le_refl _)
theorem small_run {n : Int} {s : Jt} (h : Small n s) (hn : n ≤ 1000) (now : Int) (h1 : s.now ≤ now) (h2 : now ≤ 281474976710656) : Small (n + 1) (run0 s now) := by
  have hl : (due now s.q).length ≤ s.q.length := (due_sub now s.q).length_le
  have h200 : s.q.length ≤ 200 := h.ok.2.2.2.2.1
  have hp := h.played
  have h0 := h.late
  have h3 := h.twice
  exact ⟨run0_ok s now h.ok h1 h2 (by omega), by show s.late ≤ _; omega, by show s.twice ≤ _; omega, by show s.played + ((due now s.q).length : Int) ≤ _; omega⟩
theorem run0_keeps (s : Jt) (now : Int) : (run0 s now).late = s.late ∧ (run0 s now).twice = s.twice ∧ (run0 s now).now = now ∧ (run0 s now).q = left now s.q ∧ (run0 s now).least = s.least ∧ (run0 s now).most = s.most := ⟨rfl, rfl, rfl, rfl, rfl, rfl⟩
theorem small_put {n : Int} {s : Jt} (h : Small n s) (hn : n ≤ 1000) (now : Int) (h1 : s.now ≤ now) (h2 : now ≤ 281474976710656) (m : Md) (hm : m.ok) : Small (n + 1) (put0 (run0 s now) m).1 := by
  have hr := small_run h hn now h1 h2
  obtain ⟨c1, c2, c3, _⟩ := put0_cnt (run0 s now) m
  have e1 : (run0 s now).late = s.late := rfl
  have e2 : (run0 s now).twice = s.twice := rfl
  have h3 := h.late
  have h4 := h.twice
  have h5 := hr.played
  exact ⟨put0_ok _ m hr.ok hm (by omega) (by omega), by omega, by omega, by omega⟩
theorem chk_run {s : Jt} {now : Int} (h : s.ok) (h1 : s.now ≤ now) (h2 : now ≤ 281474976710656) : chk s now true = 0 := by
  unfold chk
  rw [if_neg (fun hc => ?_), if_neg (by omega)]
  rcases hc with hc | hc | hc
  · exact hc h
  · omega
  · cases hc
theorem chk_put {s : Jt} {now : Int} {m : Md} (h : s.ok) (h1 : s.now ≤ now) (h2 : now ≤ 281474976710656) (hm : m.ok) : chk s now (decide m.ok) = 0 := by
  rw [decide_eq_true hm]
  exact chk_run h h1 h2
theorem chk_bad {s : Jt} {now : Int} {m : Md} (hm : ¬m.ok) : chk s now (decide m.ok) = 2 := by
  unfold chk
  rw [if_pos (Or.inr (Or.inr (decide_eq_false hm)))]
end Go.Proofs.Ytnaafjdnmbajjaa.Jb
/- Layer 30: what Put of the reference holds in memory while it works. -/
namespace Go.Proofs.Ytnaafjdnmbajjaa
open Go.RowKit
set_option linter.unusedVariables false
set_option linter.unusedSimpArgs false
attribute [local go_sem ↓] run_min_plain run_max_plain
attribute [local go_sem] setCell_drewN alloc_drewN
theorem Z14_no : NoU8 Z14 := by
  intro v hv z e
  subst e
  simp [Z14] at hv
theorem NoU8.set {cs : List Value} (h : NoU8 cs) (i : Nat) (v : Value) (hv : ∀ z, v ≠ .int .u8 z) : NoU8 (cs.set i v) := fun x hx z => by
  rcases List.mem_or_eq_of_mem_set hx with hx | rfl
  · exact h x hx z
  · exact hv z
theorem Blk.congr {w : World} {g : Nat} {t : TypeId} {cs cs' : Array Value} (h : Blk w g t cs) (e : cs = cs') : Blk w g t cs' := e ▸ h
/-- the state's box, the packet's box, the result's box; what was played; the queue -/
structure QSt (w W : World) (cs ms : List Value) (A1 : Option Addr) (l1 : List TW) (A2 : Option Addr) (n2 c2 : Nat) (l2 : List TW) : Prop where
  bs : Blk W w.heap.size 26 cs.toArray
  no : NoU8 cs
  bm : Blk W (w.heap.size + 1) 29 ms.toArray
  br : Blk W (w.heap.size + 1 + 1) 26 Z14.toArray
  u : Bel w W
  p1 : Wts W W.heap.size A1 l1
  p2 : Wts W W.heap.size A2 l2
  len2 : l2.length = n2
  cap : n2 ≤ c2
  cm : c2 ≤ maxLen
section
variable {w W W' : World} {n2 c2 : Nat} {cs ms : List Value} {A1 A2 : Option Addr} {l1 l2 : List TW}
theorem QSt.later (h : QSt w W cs ms A1 l1 A2 n2 c2 l2) (hb : Below W.heap.size W W') : QSt w W' cs ms A1 l1 A2 n2 c2 l2 :=
  ⟨h.bs.later hb, h.no, h.bm.later hb, h.br.later hb, h.u.later hb, h.p1.later hb, h.p2.later hb, h.len2, h.cap, h.cm⟩
theorem QSt.drewN (h : QSt w W cs ms A1 l1 A2 n2 c2 l2) : ∀ k, QSt w (W.drewN k) cs ms A1 l1 A2 n2 c2 l2
  | 0 => h
  | k + 1 => (h.drewN k).later (Below.refl _ _).drew
theorem QSt.set (h : QSt w W cs ms A1 l1 A2 n2 c2 l2) (i : Nat) (v : Value) (hv : ∀ z, v ≠ .int .u8 z) : QSt w (W.setCell ⟨w.heap.size, i, none⟩ v) (cs.set i v) ms A1 l1 A2 n2 c2 l2 := by
  have hk : ∀ p : Addr, p.block ≠ w.heap.size → (W.setCell ⟨w.heap.size, i, none⟩ v).cell? p = W.cell? p := fun p hp => World.cell?_setCell_other W _ p v (fun e => hp (by first | rw [e] | rw [← e]))
  have hs : (W.setCell ⟨w.heap.size, i, none⟩ v).heap.size = W.heap.size := by simp [World.setCell]
  refine ⟨?_, h.no.set i v hv, h.bm.far (by simp) _, h.br.far (by simp; omega) _, below_set_old h.u (Nat.le_refl _) _, ?_, ?_, h.len2, h.cap, h.cm⟩
  · exact (h.bs.set_ i v).congr (by simp)
  · rw [hs]; exact h.p1.keepNe h.bs h.no hk
  · rw [hs]; exact h.p2.keepNe h.bs h.no hk
theorem QSt.row {n3 c3 : Nat} {A3 : Option Addr} {l3 : List TW} (h : QSt w W cs ms A1 l1 A2 n2 c2 l2) (vs : List Value) (hl : cs.length = vs.length) (hv : NoU8 vs) : QSt w (setRow w.heap.size W 0 vs) vs ms A1 l1 A2 n2 c2 l2 :=
  ⟨h.bs.setRow vs (by simpa using hl), hv, h.bm.farRow (by omega) vs W 0, h.br.farRow (by omega) vs W 0, Go.Proofs.Ytnaafjdnmbajjaa.below_setRow (Nat.le_refl _) vs W 0 h.u, by rw [setRow_size]; exact h.p1.setRowNe h.bs h.no vs, by rw [setRow_size]; exact h.p2.setRowNe h.bs h.no vs, h.len2, h.cap, h.cm⟩
/-- the queue is another one -/
theorem QSt.queue {n3 c3 : Nat} {A3 : Option Addr} {l3 : List TW} (h : QSt w W cs ms A1 l1 A2 n2 c2 l2) (hp : Wts W W.heap.size A3 l3) (hl : l3.length = n3) (hc : n3 ≤ c3) (hm : c3 ≤ maxLen) : QSt w W cs ms A1 l1 A3 n3 c3 l3 := ⟨h.bs, h.no, h.bm, h.br, h.u, h.p1, hp, hl, hc, hm⟩
/-- the result is written -/
theorem QSt.fin (h : QSt w W cs ms A1 l1 A2 n2 c2 l2) (vs : List Value) (hl : vs.length = 14) : Blk (setRow (w.heap.size + 1 + 1) W 0 vs) (w.heap.size + 1 + 1) 26 vs.toArray ∧ Wts (setRow (w.heap.size + 1 + 1) W 0 vs) (setRow (w.heap.size + 1 + 1) W 0 vs).heap.size A1 l1 ∧ Wts (setRow (w.heap.size + 1 + 1) W 0 vs) (setRow (w.heap.size + 1 + 1) W 0 vs).heap.size A2 l2 ∧ l2.length = n2 ∧ n2 ≤ c2 ∧ c2 ≤ maxLen ∧ Below w.heap.size w (setRow (w.heap.size + 1 + 1) W 0 vs) :=
  ⟨h.br.setRow vs (by simp [Z14, hl]), by rw [setRow_size]; exact h.p1.setRowNe h.br Z14_no vs, by rw [setRow_size]; exact h.p2.setRowNe h.br Z14_no vs, h.len2, h.cap, h.cm, Go.Proofs.Ytnaafjdnmbajjaa.below_setRow (by omega) vs W 0 h.u⟩
end
/-- the boxes while nothing but the zero result is written -/
structure RA (w W : World) (cs ms : List Value) : Prop where
  bs : Blk W w.heap.size 26 cs.toArray
  bm : Blk W (w.heap.size + 1) 29 ms.toArray
  br : Blk W (w.heap.size + 1 + 1) 26 Z14.toArray
  u : Bel w W
theorem RA.later' {w W W' : World} {cs ms : List Value} (hb : Below W.heap.size W W') (h : RA w W cs ms) : RA w W' cs ms := ⟨h.bs.later hb, h.bm.later hb, h.br.later hb, h.u.later hb⟩
theorem RA.drew {w W : World} {cs ms : List Value} (h : RA w W cs ms) : RA w W.drew cs ms := h.later' (Below.refl _ _).drew
theorem RA.store {w W : World} {cs ms : List Value} (h : RA w W cs ms) : RA w (setRow (w.heap.size + 1 + 1) W 0 Z14) cs ms := ⟨h.bs.farRow (by omega) Z14 W 0, h.bm.farRow (by omega) Z14 W 0, (h.br.setRow Z14 rfl), Go.Proofs.Ytnaafjdnmbajjaa.below_setRow (by omega) Z14 W 0 h.u⟩
theorem any_at {l : List TW} {sq : Int} (h : ((l.map TW.w).any fun x => x.m.sq == sq) = true) : ∃ p, p < l.length ∧ (∀ a, l[p]? = some a → a.w.m.sq = sq) ∧ ∀ k a, k < p → l[k]? = some a → a.w.m.sq ≠ sq := by
  induction l with
  | nil => simp at h
  | cons b l ih =>
    by_cases hb : b.w.m.sq = sq
    · exact ⟨0, by simp, fun a ha => by simp at ha; rw [← ha]; exact hb, fun k a hk => by omega⟩
    · have h2 : ((l.map TW.w).any fun x => x.m.sq == sq) = true := by simpa [hb] using h
      obtain ⟨p, hp, h3, h4⟩ := ih h2
      refine ⟨p + 1, by simp; omega, fun a ha => h3 a (by simpa using ha), fun k a hk ha => ?_⟩
      rcases k with _ | k
      · simp at ha; rw [← ha]; exact hb
      · exact h4 k a (by omega) (by simpa using ha)
theorem any_no {l : List TW} {sq : Int} (h : ((l.map TW.w).any fun x => x.m.sq == sq) = false) {k : Nat} {a : TW} (ha : l[k]? = some a) : a.w.m.sq ≠ sq := fun e => by
  rw [List.any_eq_false] at h
  exact h a.w (List.mem_map.2 ⟨a, List.mem_of_getElem? ha, rfl⟩) (by simpa using e)
theorem foldl_snoc (l : List TW) (k : Nat) (a : TW) (h : l[k]? = some a) (z : Int) : ((l.take (k + 1)).map TW.w).foldl (fun z w => max z (w.at_ + 1)) z = max (((l.take k).map TW.w).foldl (fun z w => max z (w.at_ + 1)) z) (a.w.at_ + 1) := by
  rw [List.take_add_one, h, List.map_append, List.foldl_append]
  rfl
end Go.Proofs.Ytnaafjdnmbajjaa
/- Layer 30: Put of the reference, one way. -/
namespace Go.Proofs.Ytnaafjdnmbajjaa
open Go.RowKit
set_option linter.unusedVariables false
set_option linter.unusedSimpArgs false
attribute [local go_sem ↓] run_min_plain run_max_plain
attribute [local go_sem] setCell_drewN alloc_drewN
set_option maxRecDepth 100000 in
set_option maxHeartbeats 12800000 in
theorem rput_bad (le mo nw : Int) (on : Bool) (ze fi hi dn sp tr : Int) (A : Option Addr) (l : List TW) (n qc : Nat) (la tw pd : Int) (now : Int) (sq ti : Int) (mk : Bool) (ty : Int) (MA : Option Addr) (mn mc : Nat) (pl : List Int) (w : World) (hn : l.length = n) (hmn : pl.length = mn) (hl : n ≤ 100000) (hm9 : mn ≤ 100000) (hcap : n ≤ qc) (hcm : qc ≤ maxLen) (hA : Wts w w.heap.size A l) (hP : ∀ a ∈ l, a.w.m.pl.length ≤ 1000000000) (hMI : IntsAt w w.heap.size .u8 MA pl) (hr0 : ¬Jb.chk ⟨le, mo, nw, on, ze, fi, hi, dn, sp, tr, l.map TW.w, la, tw, pd⟩ now (decide (Jb.Md.ok ⟨sq, ti, mk, ty, pl⟩)) = 0) : Calls Try.prog 12 #[.agg #[.int .i64 le, .int .i64 mo, .int .i64 nw, .bool on, .int .i64 ze, .int .i64 fi, .int .i64 hi, .int .i64 dn, .int .i64 sp, .int .i64 tr, .slice A n qc, .int .i64 la, .int .i64 tw, .int .i64 pd], .int .i64 now, .agg #[.int .i64 sq, .int .i64 ti, .bool mk, .int .u8 ty, .slice MA mn mc]] w (JPutR ⟨le, mo, nw, on, ze, fi, hi, dn, sp, tr, l.map TW.w, la, tw, pd⟩ now ⟨sq, ti, mk, ty, pl⟩ w) := by
  subst hn
  subst hmn
  obtain ⟨r, hr⟩ : ∃ r, r = Jb.chk ⟨le, mo, nw, on, ze, fi, hi, dn, sp, tr, l.map TW.w, la, tw, pd⟩ now (decide (Jb.Md.ok ⟨sq, ti, mk, ty, pl⟩)) := ⟨_, rfl⟩
  rw [← hr] at hr0
  have HR := Lib.hid hr
  obtain ⟨fm, hfm0⟩ : ∃ fm, fm = decide (Jb.Md.ok ⟨sq, ti, mk, ty, pl⟩) := ⟨_, rfl⟩
  have k0 := Lib.hid fun W => rformed_any sq ti mk ty MA pl.length mc W (by omega) fm (by rw [hfm0]; rfl)
  rw [← hfm0] at hr
  have k1 := Lib.hid fun (W : World) (hW : Bel w W) => rcheck_any le mo nw on ze fi hi dn sp tr A l l.length qc la tw pd now fm W rfl hl ((hA.below hW).more hW.size) hP r hr
  have U0 := Lib.hid ((((Bel.refl w).push (.cells #[.int .i64 le, .int .i64 mo, .int .i64 nw, .bool on, .int .i64 ze, .int .i64 fi, .int .i64 hi, .int .i64 dn, .int .i64 sp, .int .i64 tr, .slice A l.length qc, .int .i64 la, .int .i64 tw, .int .i64 pd] 26)).push (.cells #[.int .i64 sq, .int .i64 ti, .bool mk, .int .u8 ty, .slice MA pl.length mc] 29)).push (.cells #[.int .i64 0, .int .i64 0, .int .i64 0, .bool false, .int .i64 0, .int .i64 0, .int .i64 0, .int .i64 0, .int .i64 0, .int .i64 0, .slice none 0 0, .int .i64 0, .int .i64 0, .int .i64 0] 26))
  have BS := Lib.hid (((Blk.new w 26 #[.int .i64 le, .int .i64 mo, .int .i64 nw, .bool on, .int .i64 ze, .int .i64 fi, .int .i64 hi, .int .i64 dn, .int .i64 sp, .int .i64 tr, .slice A l.length qc, .int .i64 la, .int .i64 tw, .int .i64 pd]).push (.cells #[.int .i64 sq, .int .i64 ti, .bool mk, .int .u8 ty, .slice MA pl.length mc] 29)).push (.cells #[.int .i64 0, .int .i64 0, .int .i64 0, .bool false, .int .i64 0, .int .i64 0, .int .i64 0, .int .i64 0, .int .i64 0, .int .i64 0, .slice none 0 0, .int .i64 0, .int .i64 0, .int .i64 0] 26))
  have BM := Lib.hid ((Blk.new1 w (.cells #[.int .i64 le, .int .i64 mo, .int .i64 nw, .bool on, .int .i64 ze, .int .i64 fi, .int .i64 hi, .int .i64 dn, .int .i64 sp, .int .i64 tr, .slice A l.length qc, .int .i64 la, .int .i64 tw, .int .i64 pd] 26) 29 #[.int .i64 sq, .int .i64 ti, .bool mk, .int .u8 ty, .slice MA pl.length mc]).push (.cells #[.int .i64 0, .int .i64 0, .int .i64 0, .bool false, .int .i64 0, .int .i64 0, .int .i64 0, .int .i64 0, .int .i64 0, .int .i64 0, .slice none 0 0, .int .i64 0, .int .i64 0, .int .i64 0] 26))
  have BR : Hid (Blk (((w.alloc (.cells #[.int .i64 le, .int .i64 mo, .int .i64 nw, .bool on, .int .i64 ze, .int .i64 fi, .int .i64 hi, .int .i64 dn, .int .i64 sp, .int .i64 tr, .slice A l.length qc, .int .i64 la, .int .i64 tw, .int .i64 pd] 26)).alloc (.cells #[.int .i64 sq, .int .i64 ti, .bool mk, .int .u8 ty, .slice MA pl.length mc] 29)).alloc (.cells #[.int .i64 0, .int .i64 0, .int .i64 0, .bool false, .int .i64 0, .int .i64 0, .int .i64 0, .int .i64 0, .int .i64 0, .int .i64 0, .slice none 0 0, .int .i64 0, .int .i64 0, .int .i64 0] 26)) (w.heap.size + 1 + 1) 26 #[.int .i64 0, .int .i64 0, .int .i64 0, .bool false, .int .i64 0, .int .i64 0, .int .i64 0, .int .i64 0, .int .i64 0, .int .i64 0, .slice none 0 0, .int .i64 0, .int .i64 0, .int .i64 0]) := Lib.hid (by have h9 := Blk.new ((w.alloc (.cells #[.int .i64 le, .int .i64 mo, .int .i64 nw, .bool on, .int .i64 ze, .int .i64 fi, .int .i64 hi, .int .i64 dn, .int .i64 sp, .int .i64 tr, .slice A l.length qc, .int .i64 la, .int .i64 tw, .int .i64 pd] 26)).alloc (.cells #[.int .i64 sq, .int .i64 ti, .bool mk, .int .u8 ty, .slice MA pl.length mc] 29)) 26 #[.int .i64 0, .int .i64 0, .int .i64 0, .bool false, .int .i64 0, .int .i64 0, .int .i64 0, .int .i64 0, .int .i64 0, .int .i64 0, .slice none 0 0, .int .i64 0, .int .i64 0, .int .i64 0]; rw [size_alloc2] at h9; exact h9)
  have HA := Lib.hid hA
  have HMI := Lib.hid hMI
  have HP := Lib.hid hP
  clear hr hA hMI hP hfm0
  have hne : (r != 0) = true := by simpa using hr0
  have HN := Lib.hid hr0
  clear hr0
  go_enter Try.func12, Try.ntmps12
  go_wp2_with fail
  obtain ⟨wx, hwx⟩ : ∃ W, W = (((w.alloc (.cells #[.int .i64 le, .int .i64 mo, .int .i64 nw, .bool on, .int .i64 ze, .int .i64 fi, .int .i64 hi, .int .i64 dn, .int .i64 sp, .int .i64 tr, .slice A l.length qc, .int .i64 la, .int .i64 tw, .int .i64 pd] 26)).alloc (.cells #[.int .i64 sq, .int .i64 ti, .bool mk, .int .u8 ty, .slice MA pl.length mc] 29)).alloc (.cells #[.int .i64 0, .int .i64 0, .int .i64 0, .bool false, .int .i64 0, .int .i64 0, .int .i64 0, .int .i64 0, .int .i64 0, .int .i64 0, .slice none 0 0, .int .i64 0, .int .i64 0, .int .i64 0] 26)) := ⟨_, rfl⟩
  rw [← hwx] at U0 BS BM BR ⊢
  clear hwx
  obtain ⟨s0, s1, s2, s3, s4, s5, s6, s7, s8, s9, s10, s11, s12, s13⟩ := Blk.c14 BS.out
  obtain ⟨m0, m1, m2, m3, m4⟩ := Blk.c5 BM.out
  have hU : Below wx.heap.size wx wx := Below.refl _ _
  have hlr := BR.out.lt
  refine wp_region_held_drew (S := fun w' => Below wx.heap.size wx w' ∧ w'.cell? ⟨w.heap.size, 0, none⟩ = some (.int .i64 le) ∧ w'.cell? ⟨w.heap.size, 1, none⟩ = some (.int .i64 mo) ∧ w'.cell? ⟨w.heap.size, 2, none⟩ = some (.int .i64 nw) ∧ w'.cell? ⟨w.heap.size, 3, none⟩ = some (.bool on) ∧ w'.cell? ⟨w.heap.size, 4, none⟩ = some (.int .i64 ze) ∧ w'.cell? ⟨w.heap.size, 5, none⟩ = some (.int .i64 fi) ∧ w'.cell? ⟨w.heap.size, 6, none⟩ = some (.int .i64 hi) ∧ w'.cell? ⟨w.heap.size, 7, none⟩ = some (.int .i64 dn) ∧ w'.cell? ⟨w.heap.size, 8, none⟩ = some (.int .i64 sp) ∧ w'.cell? ⟨w.heap.size, 9, none⟩ = some (.int .i64 tr) ∧ w'.cell? ⟨w.heap.size, 10, none⟩ = some (.slice A l.length qc) ∧ w'.cell? ⟨w.heap.size, 11, none⟩ = some (.int .i64 la) ∧ w'.cell? ⟨w.heap.size, 12, none⟩ = some (.int .i64 tw) ∧ w'.cell? ⟨w.heap.size, 13, none⟩ = some (.int .i64 pd) ∧ w'.cell? ⟨w.heap.size + 1, 0, none⟩ = some (.int .i64 sq) ∧ w'.cell? ⟨w.heap.size + 1, 1, none⟩ = some (.int .i64 ti) ∧ w'.cell? ⟨w.heap.size + 1, 2, none⟩ = some (.bool mk) ∧ w'.cell? ⟨w.heap.size + 1, 3, none⟩ = some (.int .u8 ty) ∧ w'.cell? ⟨w.heap.size + 1, 4, none⟩ = some (.slice MA pl.length mc)) (by kernel_rfl) ?_ (fun hHeld => ?_)
  · (first | assumption | ((try go_split_ands); refine and_dep ?_ (fun hbX => ⟨cell_old hbX s0, cell_old hbX s1, cell_old hbX s2, cell_old hbX s3, cell_old hbX s4, cell_old hbX s5, cell_old hbX s6, cell_old hbX s7, cell_old hbX s8, cell_old hbX s9, cell_old hbX s10, cell_old hbX s11, cell_old hbX s12, cell_old hbX s13, cell_old hbX m0, cell_old hbX m1, cell_old hbX m2, cell_old hbX m3, cell_old hbX m4⟩); (with_reducible repeat first | assumption | exact below_old' (by assumption) (by assumption) | refine Below.drew ?_ | refine below_new_old ?_ _)))
  first
    | (refine tk1 (i := 0) (v := ?_) rfl (Or.inl ⟨by rfl, ?_⟩) (by assumption) ?_
       rotate_left
       · (intro w hSw; (try dsimp only at hSw); go_simp; try with_reducible rfl))
    | refine tk1 (i := 0) (v := undef) rfl (Or.inr ⟨by rfl, rfl⟩) (by assumption) ?_
  try simp only [List.getElem_toArray, List.getElem_cons_zero, List.getElem_cons_succ, Act.put, List.setIfInBounds_toArray, List.set_cons_zero, List.set_cons_succ]
  first
    | (refine tk1 (i := 1) (v := ?_) rfl (Or.inl ⟨by rfl, ?_⟩) (by assumption) ?_
       rotate_left
       · (intro w hSw; (try dsimp only at hSw); go_simp; try with_reducible rfl))
    | refine tk1 (i := 1) (v := undef) rfl (Or.inr ⟨by rfl, rfl⟩) (by assumption) ?_
  try simp only [List.getElem_toArray, List.getElem_cons_zero, List.getElem_cons_succ, Act.put, List.setIfInBounds_toArray, List.set_cons_zero, List.set_cons_succ]
  first
    | (refine tk1 (i := 2) (v := ?_) rfl (Or.inl ⟨by rfl, ?_⟩) (by assumption) ?_
       rotate_left
       · (intro w hSw; (try dsimp only at hSw); go_simp; try with_reducible rfl))
    | refine tk1 (i := 2) (v := undef) rfl (Or.inr ⟨by rfl, rfl⟩) (by assumption) ?_
  try simp only [List.getElem_toArray, List.getElem_cons_zero, List.getElem_cons_succ, Act.put, List.setIfInBounds_toArray, List.set_cons_zero, List.set_cons_succ]
  refine wpAnyH_ready (rs := [3]) (by kernel_rfl) (by simp) ?_
  refine AllReadyH.cons (o := _) rfl (fun K hK => ?_) ?_
  rotate_left
  · exact AllReadyH.nil
  go_simp
  (go_at_call 25; refine (k0.out _).mono ?_; rintro e w' ⟨rfl, hbel⟩; have hbw : Below wx.heap.size wx w' := below_old' hbel (by (try go_split_ands); assumption); obtain ⟨hcc, hff⟩ := bcell hbel)
  refine hK.out _ _ ?_ (fun hHeld => ?_)
  · (try dsimp only)
    (first | assumption | ((try go_split_ands); refine and_dep ?_ (fun hbX => ⟨cell_old hbX s0, cell_old hbX s1, cell_old hbX s2, cell_old hbX s3, cell_old hbX s4, cell_old hbX s5, cell_old hbX s6, cell_old hbX s7, cell_old hbX s8, cell_old hbX s9, cell_old hbX s10, cell_old hbX s11, cell_old hbX s12, cell_old hbX s13, cell_old hbX m0, cell_old hbX m1, cell_old hbX m2, cell_old hbX m3, cell_old hbX m4⟩); (with_reducible repeat first | assumption | exact below_old' (by assumption) (by assumption) | refine Below.drew ?_ | refine below_new_old ?_ _)))
  clear hK K
  try simp only [List.getElem_toArray, List.getElem_cons_zero, List.getElem_cons_succ, Act.put, List.setIfInBounds_toArray, List.set_cons_zero, List.set_cons_succ]
  refine wpAnyH_ready (rs := [4]) (by kernel_rfl) (by simp) ?_
  refine AllReadyH.cons (o := _) rfl (fun K hK => ?_) ?_
  rotate_left
  · exact AllReadyH.nil
  go_simp
  (go_at_call 38; refine (k1.out _ (U0.out.later (by (try go_split_ands); with_reducible assumption))).mono ?_; rintro e w' ⟨rfl, hbel2⟩; have hbw2 : Below wx.heap.size wx w' := below_old' hbel2 (by (try go_split_ands); assumption); obtain ⟨hcc2, hff2⟩ := bcell hbel2)
  refine hK.out _ _ ?_ (fun hHeld => ?_)
  · (try dsimp only)
    (first | assumption | ((try go_split_ands); refine and_dep ?_ (fun hbX => ⟨cell_old hbX s0, cell_old hbX s1, cell_old hbX s2, cell_old hbX s3, cell_old hbX s4, cell_old hbX s5, cell_old hbX s6, cell_old hbX s7, cell_old hbX s8, cell_old hbX s9, cell_old hbX s10, cell_old hbX s11, cell_old hbX s12, cell_old hbX s13, cell_old hbX m0, cell_old hbX m1, cell_old hbX m2, cell_old hbX m3, cell_old hbX m4⟩); (with_reducible repeat first | assumption | exact below_old' (by assumption) (by assumption) | refine Below.drew ?_ | refine below_new_old ?_ _)))
  clear hK K
  try simp only [List.getElem_toArray, List.getElem_cons_zero, List.getElem_cons_succ, Act.put, List.setIfInBounds_toArray, List.set_cons_zero, List.set_cons_succ]
  first
    | (refine tk1 (i := 5) (v := ?_) rfl (Or.inl ⟨by rfl, ?_⟩) (by assumption) ?_
       rotate_left
       · (intro w hSw; (try dsimp only at hSw); go_simp; try with_reducible rfl))
    | refine tk1 (i := 5) (v := undef) rfl (Or.inr ⟨by rfl, rfl⟩) (by assumption) ?_
  try simp only [List.getElem_toArray, List.getElem_cons_zero, List.getElem_cons_succ, Act.put, List.setIfInBounds_toArray, List.set_cons_zero, List.set_cons_succ]
  refine wpAnyH_done (by kernel_rfl) ?_ _
  obtain ⟨W1, hW1⟩ : ∃ W, W = w' := ⟨_, rfl⟩
  subst hW1
  have U1 := Lib.hid (U0.out.later hbw2)
  have BS1 := Lib.hid (BS.out.later hbw2)
  have BM1 := Lib.hid (BM.out.later hbw2)
  have BR1 := Lib.hid (BR.out.later hbw2)
  have hs1 := BR1.out.lt
  clear hcc hff hbel hcc2 hff2 hbel2 hbw hU s0 s1 s2 s3 s4 s5 s6 s7 s8 s9 s10 s11 s12 s13 m0 m1 m2 m3 m4
  clear hbw2
  obtain ⟨s0, s1, s2, s3, s4, s5, s6, s7, s8, s9, s10, s11, s12, s13⟩ := Blk.c14 BS1.out
  obtain ⟨m0, m1, m2, m3, m4⟩ := Blk.c5 BM1.out
  obtain ⟨r0, r1, r2, r3, r4, r5, r6, r7, r8, r9, r10, r11, r12, r13⟩ := Blk.c14 BR1.out
  have rfz := BR1.out.frozen
  have HRA0 : Hid (RA w W1 [.int .i64 le, .int .i64 mo, .int .i64 nw, .bool on, .int .i64 ze, .int .i64 fi, .int .i64 hi, .int .i64 dn, .int .i64 sp, .int .i64 tr, .slice A l.length qc, .int .i64 la, .int .i64 tw, .int .i64 pd] [.int .i64 sq, .int .i64 ti, .bool mk, .int .u8 ty, .slice MA pl.length mc]) := Lib.hid ⟨BS1.out, BM1.out, BR1.out, U1.out⟩
  clear U1 BS1 BM1 BR1 U0 BS BM BR
  go_wp2_with fail
  refine wp_region_held_drew (S := fun w' => Hid (RA w w' [.int .i64 le, .int .i64 mo, .int .i64 nw, .bool on, .int .i64 ze, .int .i64 fi, .int .i64 hi, .int .i64 dn, .int .i64 sp, .int .i64 tr, .slice A l.length qc, .int .i64 la, .int .i64 tw, .int .i64 pd] [.int .i64 sq, .int .i64 ti, .bool mk, .int .u8 ty, .slice MA pl.length mc]) ∧ w'.cell? ⟨w.heap.size, 0, none⟩ = some (.int .i64 le) ∧ w'.cell? ⟨w.heap.size, 1, none⟩ = some (.int .i64 mo) ∧ w'.cell? ⟨w.heap.size, 2, none⟩ = some (.int .i64 nw) ∧ w'.cell? ⟨w.heap.size, 3, none⟩ = some (.bool on) ∧ w'.cell? ⟨w.heap.size, 4, none⟩ = some (.int .i64 ze) ∧ w'.cell? ⟨w.heap.size, 5, none⟩ = some (.int .i64 fi) ∧ w'.cell? ⟨w.heap.size, 6, none⟩ = some (.int .i64 hi) ∧ w'.cell? ⟨w.heap.size, 7, none⟩ = some (.int .i64 dn) ∧ w'.cell? ⟨w.heap.size, 8, none⟩ = some (.int .i64 sp) ∧ w'.cell? ⟨w.heap.size, 9, none⟩ = some (.int .i64 tr) ∧ w'.cell? ⟨w.heap.size, 10, none⟩ = some (.slice A l.length qc) ∧ w'.cell? ⟨w.heap.size, 11, none⟩ = some (.int .i64 la) ∧ w'.cell? ⟨w.heap.size, 12, none⟩ = some (.int .i64 tw) ∧ w'.cell? ⟨w.heap.size, 13, none⟩ = some (.int .i64 pd) ∧ w'.cell? ⟨w.heap.size + 1, 0, none⟩ = some (.int .i64 sq) ∧ w'.cell? ⟨w.heap.size + 1, 1, none⟩ = some (.int .i64 ti) ∧ w'.cell? ⟨w.heap.size + 1, 2, none⟩ = some (.bool mk) ∧ w'.cell? ⟨w.heap.size + 1, 3, none⟩ = some (.int .u8 ty) ∧ w'.cell? ⟨w.heap.size + 1, 4, none⟩ = some (.slice MA pl.length mc) ∧ (∀ i, w'.frozen? ⟨w.heap.size + 1 + 1, i, none⟩ = false) ∧ w'.cell? ⟨w.heap.size + 1 + 1, 0, none⟩ = some (.int .i64 0) ∧ w'.cell? ⟨w.heap.size + 1 + 1, 1, none⟩ = some (.int .i64 0) ∧ w'.cell? ⟨w.heap.size + 1 + 1, 2, none⟩ = some (.int .i64 0) ∧ w'.cell? ⟨w.heap.size + 1 + 1, 3, none⟩ = some (.bool false) ∧ w'.cell? ⟨w.heap.size + 1 + 1, 4, none⟩ = some (.int .i64 0) ∧ w'.cell? ⟨w.heap.size + 1 + 1, 5, none⟩ = some (.int .i64 0) ∧ w'.cell? ⟨w.heap.size + 1 + 1, 6, none⟩ = some (.int .i64 0) ∧ w'.cell? ⟨w.heap.size + 1 + 1, 7, none⟩ = some (.int .i64 0) ∧ w'.cell? ⟨w.heap.size + 1 + 1, 8, none⟩ = some (.int .i64 0) ∧ w'.cell? ⟨w.heap.size + 1 + 1, 9, none⟩ = some (.int .i64 0) ∧ w'.cell? ⟨w.heap.size + 1 + 1, 10, none⟩ = some (.slice none 0 0) ∧ w'.cell? ⟨w.heap.size + 1 + 1, 11, none⟩ = some (.int .i64 0) ∧ w'.cell? ⟨w.heap.size + 1 + 1, 12, none⟩ = some (.int .i64 0) ∧ w'.cell? ⟨w.heap.size + 1 + 1, 13, none⟩ = some (.int .i64 0)) (by kernel_rfl) ?_ (fun hHeld => ?_)
  · (first | assumption | ((try go_split_ands); refine (fun hra => ⟨Lib.hid hra, hra.bs.at 0 _ rfl, hra.bs.at 1 _ rfl, hra.bs.at 2 _ rfl, hra.bs.at 3 _ rfl, hra.bs.at 4 _ rfl, hra.bs.at 5 _ rfl, hra.bs.at 6 _ rfl, hra.bs.at 7 _ rfl, hra.bs.at 8 _ rfl, hra.bs.at 9 _ rfl, hra.bs.at 10 _ rfl, hra.bs.at 11 _ rfl, hra.bs.at 12 _ rfl, hra.bs.at 13 _ rfl, hra.bm.at 0 _ rfl, hra.bm.at 1 _ rfl, hra.bm.at 2 _ rfl, hra.bm.at 3 _ rfl, hra.bm.at 4 _ rfl, hra.br.frozen, hra.br.at 0 _ rfl, hra.br.at 1 _ rfl, hra.br.at 2 _ rfl, hra.br.at 3 _ rfl, hra.br.at 4 _ rfl, hra.br.at 5 _ rfl, hra.br.at 6 _ rfl, hra.br.at 7 _ rfl, hra.br.at 8 _ rfl, hra.br.at 9 _ rfl, hra.br.at 10 _ rfl, hra.br.at 11 _ rfl, hra.br.at 12 _ rfl, hra.br.at 13 _ rfl⟩) ?_; first | exact HST.out | (with_reducible exact RA.drew HRA0.out) | (with_reducible exact RA.later' hbel2 (Hid.out (by assumption))) | (with_reducible exact RA.later' hbel (Hid.out (by assumption)))))
  first
    | (refine tk1 (i := 0) (v := ?_) rfl (Or.inl ⟨by rfl, ?_⟩) (by assumption) ?_
       rotate_left
       · (intro w hSw; (try dsimp only at hSw); go_simp; try with_reducible rfl))
    | refine tk1 (i := 0) (v := undef) rfl (Or.inr ⟨by rfl, rfl⟩) (by assumption) ?_
  try simp only [List.getElem_toArray, List.getElem_cons_zero, List.getElem_cons_succ, Act.put, List.setIfInBounds_toArray, List.set_cons_zero, List.set_cons_succ]
  first
    | (refine tk1 (i := 1) (v := ?_) rfl (Or.inl ⟨by rfl, ?_⟩) (by assumption) ?_
       rotate_left
       · (intro w hSw; (try dsimp only at hSw); go_simp; try with_reducible rfl))
    | refine tk1 (i := 1) (v := undef) rfl (Or.inr ⟨by rfl, rfl⟩) (by assumption) ?_
  try simp only [List.getElem_toArray, List.getElem_cons_zero, List.getElem_cons_succ, Act.put, List.setIfInBounds_toArray, List.set_cons_zero, List.set_cons_succ]
  first
    | (refine tk1 (i := 2) (v := ?_) rfl (Or.inl ⟨by rfl, ?_⟩) (by assumption) ?_
       rotate_left
       · (intro w hSw; (try dsimp only at hSw); go_simp; try with_reducible rfl))
    | refine tk1 (i := 2) (v := undef) rfl (Or.inr ⟨by rfl, rfl⟩) (by assumption) ?_
  try simp only [List.getElem_toArray, List.getElem_cons_zero, List.getElem_cons_succ, Act.put, List.setIfInBounds_toArray, List.set_cons_zero, List.set_cons_succ]
  first
    | (refine tk1 (i := 3) (v := ?_) rfl (Or.inl ⟨by rfl, ?_⟩) (by assumption) ?_
       rotate_left
       · (intro w hSw; (try dsimp only at hSw); go_simp; try with_reducible rfl))
    | refine tk1 (i := 3) (v := undef) rfl (Or.inr ⟨by rfl, rfl⟩) (by assumption) ?_
  try simp only [List.getElem_toArray, List.getElem_cons_zero, List.getElem_cons_succ, Act.put, List.setIfInBounds_toArray, List.set_cons_zero, List.set_cons_succ]
  refine wpAnyH_ready (rs := [4]) (by kernel_rfl) (by simp) ?_
  refine AllReadyH.cons (o := _) rfl (fun K hK => ?_) ?_
  rotate_left
  · exact AllReadyH.nil
  go_simp
  (go_at_call 25; refine (k0.out _).mono ?_; rintro e w' ⟨rfl, hbel⟩; obtain ⟨hcc, hff⟩ := bcell hbel)
  refine hK.out _ _ ?_ (fun hHeld => ?_)
  · (try dsimp only)
    (first | assumption | ((try go_split_ands); refine (fun hra => ⟨Lib.hid hra, hra.bs.at 0 _ rfl, hra.bs.at 1 _ rfl, hra.bs.at 2 _ rfl, hra.bs.at 3 _ rfl, hra.bs.at 4 _ rfl, hra.bs.at 5 _ rfl, hra.bs.at 6 _ rfl, hra.bs.at 7 _ rfl, hra.bs.at 8 _ rfl, hra.bs.at 9 _ rfl, hra.bs.at 10 _ rfl, hra.bs.at 11 _ rfl, hra.bs.at 12 _ rfl, hra.bs.at 13 _ rfl, hra.bm.at 0 _ rfl, hra.bm.at 1 _ rfl, hra.bm.at 2 _ rfl, hra.bm.at 3 _ rfl, hra.bm.at 4 _ rfl, hra.br.frozen, hra.br.at 0 _ rfl, hra.br.at 1 _ rfl, hra.br.at 2 _ rfl, hra.br.at 3 _ rfl, hra.br.at 4 _ rfl, hra.br.at 5 _ rfl, hra.br.at 6 _ rfl, hra.br.at 7 _ rfl, hra.br.at 8 _ rfl, hra.br.at 9 _ rfl, hra.br.at 10 _ rfl, hra.br.at 11 _ rfl, hra.br.at 12 _ rfl, hra.br.at 13 _ rfl⟩) ?_; first | exact HST.out | (with_reducible exact RA.drew HRA0.out) | (with_reducible exact RA.later' hbel2 (Hid.out (by assumption))) | (with_reducible exact RA.later' hbel (Hid.out (by assumption)))))
  clear hK K
  try simp only [List.getElem_toArray, List.getElem_cons_zero, List.getElem_cons_succ, Act.put, List.setIfInBounds_toArray, List.set_cons_zero, List.set_cons_succ]
  refine wpAnyH_ready (rs := [5]) (by kernel_rfl) (by simp) ?_
  refine AllReadyH.cons (o := _) rfl (fun K hK => ?_) ?_
  rotate_left
  · exact AllReadyH.nil
  go_simp
  (go_at_call 38; refine (k1.out _ (RA.u (cs := [.int .i64 le, .int .i64 mo, .int .i64 nw, .bool on, .int .i64 ze, .int .i64 fi, .int .i64 hi, .int .i64 dn, .int .i64 sp, .int .i64 tr, .slice A l.length qc, .int .i64 la, .int .i64 tw, .int .i64 pd]) (ms := [.int .i64 sq, .int .i64 ti, .bool mk, .int .u8 ty, .slice MA pl.length mc]) (Hid.out (by (try go_split_ands); assumption)))).mono ?_; rintro e w' ⟨rfl, hbel2⟩; obtain ⟨hcc2, hff2⟩ := bcell hbel2)
  refine hK.out _ _ ?_ (fun hHeld => ?_)
  · (try dsimp only)
    (first | assumption | ((try go_split_ands); refine (fun hra => ⟨Lib.hid hra, hra.bs.at 0 _ rfl, hra.bs.at 1 _ rfl, hra.bs.at 2 _ rfl, hra.bs.at 3 _ rfl, hra.bs.at 4 _ rfl, hra.bs.at 5 _ rfl, hra.bs.at 6 _ rfl, hra.bs.at 7 _ rfl, hra.bs.at 8 _ rfl, hra.bs.at 9 _ rfl, hra.bs.at 10 _ rfl, hra.bs.at 11 _ rfl, hra.bs.at 12 _ rfl, hra.bs.at 13 _ rfl, hra.bm.at 0 _ rfl, hra.bm.at 1 _ rfl, hra.bm.at 2 _ rfl, hra.bm.at 3 _ rfl, hra.bm.at 4 _ rfl, hra.br.frozen, hra.br.at 0 _ rfl, hra.br.at 1 _ rfl, hra.br.at 2 _ rfl, hra.br.at 3 _ rfl, hra.br.at 4 _ rfl, hra.br.at 5 _ rfl, hra.br.at 6 _ rfl, hra.br.at 7 _ rfl, hra.br.at 8 _ rfl, hra.br.at 9 _ rfl, hra.br.at 10 _ rfl, hra.br.at 11 _ rfl, hra.br.at 12 _ rfl, hra.br.at 13 _ rfl⟩) ?_; first | exact HST.out | (with_reducible exact RA.drew HRA0.out) | (with_reducible exact RA.later' hbel2 (Hid.out (by assumption))) | (with_reducible exact RA.later' hbel (Hid.out (by assumption)))))
  clear hK K
  try simp only [List.getElem_toArray, List.getElem_cons_zero, List.getElem_cons_succ, Act.put, List.setIfInBounds_toArray, List.set_cons_zero, List.set_cons_succ]
  refine wpAnyH_ready (rs := [6]) (by kernel_rfl) (by simp) ?_
  refine AllReadyH.cons (o := _) rfl (fun K hK => ?_) ?_
  rotate_left
  · exact AllReadyH.nil
  go_simp
  have hst : RA w _ [.int .i64 le, .int .i64 mo, .int .i64 nw, .bool on, .int .i64 ze, .int .i64 fi, .int .i64 hi, .int .i64 dn, .int .i64 sp, .int .i64 tr, .slice A l.length qc, .int .i64 la, .int .i64 tw, .int .i64 pd] [.int .i64 sq, .int .i64 ti, .bool mk, .int .u8 ty, .slice MA pl.length mc] := RA.store (w := w) (W := w') (Hid.out (by (try go_split_ands); assumption))
  simp only [setRow, Z14, Nat.zero_add, Nat.reduceAdd] at hst
  have HST := Lib.hid hst
  clear hst
  refine hK.out _ _ ?_ (fun hHeld => ?_)
  · (try dsimp only)
    refine (fun hra => ⟨Lib.hid hra, hra.bs.at 0 _ rfl, hra.bs.at 1 _ rfl, hra.bs.at 2 _ rfl, hra.bs.at 3 _ rfl, hra.bs.at 4 _ rfl, hra.bs.at 5 _ rfl, hra.bs.at 6 _ rfl, hra.bs.at 7 _ rfl, hra.bs.at 8 _ rfl, hra.bs.at 9 _ rfl, hra.bs.at 10 _ rfl, hra.bs.at 11 _ rfl, hra.bs.at 12 _ rfl, hra.bs.at 13 _ rfl, hra.bm.at 0 _ rfl, hra.bm.at 1 _ rfl, hra.bm.at 2 _ rfl, hra.bm.at 3 _ rfl, hra.bm.at 4 _ rfl, hra.br.frozen, hra.br.at 0 _ rfl, hra.br.at 1 _ rfl, hra.br.at 2 _ rfl, hra.br.at 3 _ rfl, hra.br.at 4 _ rfl, hra.br.at 5 _ rfl, hra.br.at 6 _ rfl, hra.br.at 7 _ rfl, hra.br.at 8 _ rfl, hra.br.at 9 _ rfl, hra.br.at 10 _ rfl, hra.br.at 11 _ rfl, hra.br.at 12 _ rfl, hra.br.at 13 _ rfl⟩) ?_
    exact HST.out
  clear hK K
  try simp only [List.getElem_toArray, List.getElem_cons_zero, List.getElem_cons_succ, Act.put, List.setIfInBounds_toArray, List.set_cons_zero, List.set_cons_succ]
  first
    | (refine tk1 (i := 7) (v := ?_) rfl (Or.inl ⟨by rfl, ?_⟩) (by assumption) ?_
       rotate_left
       · (intro w hSw; (try dsimp only at hSw); go_simp; try with_reducible rfl))
    | refine tk1 (i := 7) (v := undef) rfl (Or.inr ⟨by rfl, rfl⟩) (by assumption) ?_
  try simp only [List.getElem_toArray, List.getElem_cons_zero, List.getElem_cons_succ, Act.put, List.setIfInBounds_toArray, List.set_cons_zero, List.set_cons_succ]
  first
    | (refine tk1 (i := 8) (v := ?_) rfl (Or.inl ⟨by rfl, ?_⟩) (by assumption) ?_
       rotate_left
       · (intro w hSw; (try dsimp only at hSw); go_simp; try with_reducible rfl))
    | refine tk1 (i := 8) (v := undef) rfl (Or.inr ⟨by rfl, rfl⟩) (by assumption) ?_
  try simp only [List.getElem_toArray, List.getElem_cons_zero, List.getElem_cons_succ, Act.put, List.setIfInBounds_toArray, List.set_cons_zero, List.set_cons_succ]
  first
    | (refine tk1 (i := 9) (v := ?_) rfl (Or.inl ⟨by rfl, ?_⟩) (by assumption) ?_
       rotate_left
       · (intro w hSw; (try dsimp only at hSw); go_simp; try with_reducible rfl))
    | refine tk1 (i := 9) (v := undef) rfl (Or.inr ⟨by rfl, rfl⟩) (by assumption) ?_
  try simp only [List.getElem_toArray, List.getElem_cons_zero, List.getElem_cons_succ, Act.put, List.setIfInBounds_toArray, List.set_cons_zero, List.set_cons_succ]
  refine wpAnyH_done (by kernel_rfl) ?_ _
  all_goals
    go_wp2_with fail
    have BF := HST.out.br
    have UF := HST.out.u
    have hput : Jb.put ⟨le, mo, nw, on, ze, fi, hi, dn, sp, tr, l.map TW.w, la, tw, pd⟩ now ⟨sq, ti, mk, ty, pl⟩ = (Jb.Jt.none, [], 0, r) := by unfold Jb.put; rw [← HR.out, if_neg HN.out]
    refine bodyPost_ret (v := .tuple #[.agg (List.toArray [.int .i64 0, .int .i64 0, .int .i64 0, .bool false, .int .i64 0, .int .i64 0, .int .i64 0, .int .i64 0, .int .i64 0, .int .i64 0, .slice none 0 0, .int .i64 0, .int .i64 0, .int .i64 0]), .slice none 0 0, .int .u8 0, .int .u8 r]) (res_cttt Try.results12 rfl (run_loadVar_row (P := Try.prog) _ _ _ _ _ _ _ BF Try.underlying26 rfl (by kernel_rfl)) rfl rfl rfl) rfl ⟨none, 0, [], none, 0, [], ?_, ?_, ?_, Wts.empty, Wts.empty, Nat.le_refl _, by unfold maxLen; omega, UF⟩
    · rw [hput]; rfl
    · rw [hput]; rfl
    · rw [hput]; rfl
end Go.Proofs.Ytnaafjdnmbajjaa

/- Layer 30, JitterPlays: for every input the law returns true. -/
import Derived.Deep.CutBlock
import Derived.Test.YtnaafjdnmbajjaaJtPlR
import Derived.Test.YtnaafjdnmbajjaaJtPLoopQ
namespace Go.Proofs.Ytnaafjdnmbajjaa.jitterPlays
open Go.RowKit
set_option linter.unusedVariables false
set_option linter.unusedSimpArgs false
attribute [local go_sem ↓] run_min_plain run_max_plain
attribute [local go_sem] setCell_drewN alloc_drewN
set_option maxRecDepth 100000 in
set_option maxHeartbeats 12800000 in
theorem walk (w : World) (a b : Int) (AL : Option Addr) (L : List TStep) (cL : Nat) (hcL : L.length ≤ cL) (hmL : cL ≤ maxLen) (hRL : RowsAt w w.heap.size 7 TStep.row AL L) (hok : ∀ x ∈ L, TStep.ok w x) : Calls Try.prog 8 #[.agg #[.int .i64 a, .int .i64 b], .slice AL L.length cL] w fun e w' => e = .returned (.bool true) ∧ Below w.heap.size w w' := by
  have U0 := Lib.hid ((Bel.refl w).push (.cells #[.int .i64 a, .int .i64 b] 23))
  have BC := Lib.hid (Blk.new w 23 #[.int .i64 a, .int .i64 b])
  have HRL := Lib.hid hRL
  have HOK := Lib.hid hok
  clear hRL hok
  unfold maxLen at hmL
  have k1 := Lib.hid fun (W : World) => new_any a b W
  unfold NewR at k1
  by_cases hc : Jb.cfg a b
  rotate_left
  · have k2 := Lib.hid fun (W : World) => rconfig_any a b W false (by rw [eq_comm, decide_eq_false_iff_not]; exact hc)
    rw [show Jb.new a b = (Jb.Jt.none, 3) from if_neg hc] at k1
    clear hc
    simp only [JV, Jb.Jt.none] at k1
    go_enter Try.func8, Try.ntmps8
    have d0 := BC.out.at 0 _ rfl
    have d1 := BC.out.at 1 _ rfl
    go_wp2_with fail
    refine (k1.out _).mono ?_
    rintro e w1 ⟨rfl, hb1⟩
    have U1 := Lib.hid (Bel.push (U0.out.later hb1) (.cells #[.int .i64 0, .int .i64 0, .int .i64 0, .bool false, .int .i64 0, .int .i64 0, .int .i64 0, .int .i64 0, .int .i64 0, .int .i64 0, .slice none 0 0, .int .i64 0, .int .i64 0, .int .i64 0] 26))
    have BC1 := Lib.hid ((BC.out.later hb1).push (.cells #[.int .i64 0, .int .i64 0, .int .i64 0, .bool false, .int .i64 0, .int .i64 0, .int .i64 0, .int .i64 0, .int .i64 0, .int .i64 0, .slice none 0 0, .int .i64 0, .int .i64 0, .int .i64 0] 26))
    clear hb1 d0 d1
    have d0 := BC1.out.at 0 _ rfl
    have d1 := BC1.out.at 1 _ rfl
    go_wp2_with fail
    refine (k2.out _).mono ?_
    rintro e w2 ⟨rfl, hb2⟩
    have U2 := Lib.hid (U1.out.later hb2)
    clear hb2 d0 d1
    go_wp2_with fail
    refine (lives_any _).mono ?_
    rintro e w3 ⟨rfl, hb3⟩
    have U3 := Lib.hid (U2.out.later hb3)
    clear hb3
    go_wp2_with fail
    go_ret
    exact ⟨by first | rfl | simp, U3.out⟩
  have HC := Lib.hid hc
  have e1 : Jb.new a b = ((Jb.new a b).1, 0) := by unfold Jb.new; rw [if_pos hc]
  have hq0 : (Jb.new a b).1.q = [] := by unfold Jb.new; rw [if_pos hc]
  have HAT := Lib.hid (AtStep.init hc)
  rw [e1] at k1
  generalize (Jb.new a b).1 = s0 at k1 hq0 HAT
  have HQ0 := Lib.hid hq0
  clear e1 hc hq0
  simp only [JV] at k1
  obtain ⟨M, hM⟩ : ∃ M, M = min L.length 60 := ⟨_, rfl⟩
  have hM1 : M ≤ L.length := by omega
  have hM2 : M ≤ 60 := by omega
  have HM := Lib.hid hM
  clear hM
  go_enter Try.func8, Try.ntmps8
  have d0 := BC.out.at 0 _ rfl
  have d1 := BC.out.at 1 _ rfl
  go_wp2_with fail
  refine (k1.out _).mono ?_
  rintro e w1 ⟨rfl, hb1⟩
  have U1 := Lib.hid (Bel.push (U0.out.later hb1) (.cells (JL s0 none 0 0).toArray 26))
  have SB1 : Hid (SBox (w1.alloc (.cells (JL s0 none 0 0).toArray 26)) w1.heap.size s0 none 0 []) := Lib.hid ⟨Blk.new w1 _ _, HQ0.out.symm, Nat.le_refl _, by unfold maxLen; omega, Wts.empty⟩
  have hg1 : w.heap.size < w1.heap.size := by have := hb1.size; simp at this; omega
  clear hb1 d0 d1 U0 BC k1
  go_wp2_with fail
  go_loopg [7, 8, 9] (M + 1) (fun gk s7 s8 s9 wr => ∃ (i : Nat) (now : Int) (s : Jb.Jt) (A : Option Addr) (c : Nat) (l : List TW) (AD : Option Addr) (nD cD : Nat) (D : List TW), gk + i = M + 1 ∧ s7 = .slice AD nD cD ∧ s8 = .int .i64 now ∧ s9 = .int .i64 i ∧ nD ≤ 200 ∧ nD ≤ cD ∧ Hid (D.length = nD) ∧ Hid (cD ≤ maxLen) ∧ Hid (i ≤ M → AtStep i now s ∧ Jb.Near now s.q) ∧ Hid (i = M + 1 → D = []) ∧ Hid (D.map TW.w = s.q) ∧ Hid (SBox wr w1.heap.size s A c l) ∧ Hid (Wts wr wr.heap.size AD D) ∧ Hid (Bel w wr))
  case atStart => exact ⟨0, 0, s0, none, 0, [], none, 0, 0, [], by omega, rfl, rfl, rfl, by omega, Nat.le_refl _, Lib.hid rfl, Lib.hid (Nat.zero_le _), Lib.hid (fun _ => ⟨HAT.out, by rw [HQ0.out]; exact fun x hx => by cases hx⟩), Lib.hid (fun _ => rfl), Lib.hid HQ0.out.symm, SB1, Lib.hid Wts.empty, U1⟩
  case round =>
    obtain ⟨i, now, s, A, c, l, AD, nD, cD, D, hgk, rfl, rfl, rfl, hn2, hnc, HN, HCD, HS, HE, HD, SB, HW, U⟩ := hrel
    obtain ⟨wo, hwo⟩ : ∃ W, W = wr := ⟨_, rfl⟩
    subst hwo
    have hi0 : (0 : Int) ≤ (i : Int) := by omega
    by_cases hiM : i ≤ M
    rotate_left
    · have hmm := HM.out
      by_cases hle : i ≤ L.length
      · have h61 : (60 : Int) < (i : Int) := by omega
        have hle2 : (i : Int) ≤ (L.length : Int) := by omega
        clear hmm
        have hD0 : nD = 0 := by rw [← HN.out, HE.out (by omega)]; rfl
        subst hD0
        go_wp2_with fail
        refine (lives_any _).mono ?_
        rintro e w3 ⟨rfl, hb3⟩
        have U3 := Lib.hid (U.out.later hb3)
        clear hb3
        go_wp2_with fail
        go_ret
        exact ⟨by first | rfl | simp, U3.out⟩
      have hle2 : (L.length : Int) < (i : Int) := by omega
      clear hmm
      have hD0 : nD = 0 := by rw [← HN.out, HE.out (by omega)]; rfl
      subst hD0
      go_wp2_with fail
      refine (lives_any _).mono ?_
      rintro e w3 ⟨rfl, hb3⟩
      have U3 := Lib.hid (U.out.later hb3)
      clear hb3
      go_wp2_with fail
      go_ret
      exact ⟨by first | rfl | simp, U3.out⟩
    have hi1 : (i : Int) ≤ (L.length : Int) := by omega
    have hi2 : (i : Int) ≤ 60 := by omega
    obtain ⟨hat, hnear⟩ := HS.out hiM
    have HAT1 := Lib.hid hat
    have HNE := Lib.hid hnear
    have hql := hat.queue.1
    have hn0 := hat.now0
    have hn1 := hat.now1
    have hll : l.length ≤ 200 := by rw [map_len SB.out.q]; exact hql
    clear hat hnear HS HE
    have hgm : w1.heap.size < wo.heap.size := SB.out.blk.lt
    have hnD := HN.out
    subst hnD
    have hcD2 := HCD.out
    by_cases hend : i = M
    · have hge : M ≤ i := by omega
      clear hend
      have hmm := HM.out
      by_cases hle : i = L.length
      · have g1 : ((i : Int) == (L.length : Int)) = true := by simp; omega
        have g2 : (i == L.length) = true := by simpa using hle
        have g3 : decide (i = L.length) = true := by simpa using hle
        clear hmm hle
        obtain ⟨s1, hrun, hq1, hle⟩ := end_run HAT1.out (by omega) HNE.out
        have HRUN := Lib.hid hrun
        have HQ1 : Hid (s1.q = Jb.left (now + 1000000) s.q) := Lib.hid (hq1.trans hle.symm)
        have HEN : Hid (i + 1 = M + 1 → Jb.left (now + 1000000) s.q = []) := Lib.hid (fun _ => hle)
        have HNX : Hid (i + 1 ≤ M → AtStep (i + 1) (now + 1000000) s1 ∧ Jb.Near (now + 1000000) s1.q) := Lib.hid (fun h => by omega)
        clear hrun hq1 hle
        go_upto_region 13 with fail
        have BM : Hid (Blk (wo.alloc (.cells #[.int .i64 0, .int .i64 0, .bool false, .int .u8 0, .slice none 0 0] 29)) wo.heap.size 29 #[.int .i64 0, .int .i64 0, .bool false, .int .u8 0, .slice none 0 0]) := Lib.hid (Blk.new wo _ _)
        replace SB := Lib.hid (SB.out.push (.cells #[.int .i64 0, .int .i64 0, .bool false, .int .u8 0, .slice none 0 0] 29))
        replace HW := Lib.hid (HW.out.push (.cells #[.int .i64 0, .int .i64 0, .bool false, .int .u8 0, .slice none 0 0] 29))
        replace U := Lib.hid (Bel.push U.out (.cells #[.int .i64 0, .int .i64 0, .bool false, .int .u8 0, .slice none 0 0] 29))
        obtain ⟨wa, hwa⟩ : ∃ W, W = wo.alloc (.cells #[.int .i64 0, .int .i64 0, .bool false, .int .u8 0, .slice none 0 0] 29) := ⟨_, rfl⟩
        rw [← hwa] at BM SB HW U ⊢
        have hzl : wo.heap.size < wa.heap.size := BM.out.lt
        clear hwa
        go_upto_region 19 with fail
        refine pl19_wp wa w1.heap.size c s s1 A l (Jb.due (now + 1000000) s.q) (now + 1000000) SB.out (by omega) HAT1.out.queue.2.1 HRUN.out ?_
        rintro wx A3 c3 l3 A4 c4 l4 u87 u88 u89 u90 u91 u92 u93 HPMx HP HCA HK SA
        have HPM := Lib.hid HPMx
        clear HPMx
        replace HW := Lib.hid (HK.out.wts _ _ HW.out)
        replace BM := Lib.hid (HK.out.blk _ _ _ (by omega) BM.out)
        replace U := Lib.hid (HK.out.bel w (Nat.le_of_lt hg1) U.out)
        clear SB HK
        go_upto_block 2 with fail
        refine ploop_wp wx AD A3 D l3 cD c3 (now + 1000000) HW.out HP.out (by rw [HPM.out, HD.out]) (by rw [HD.out]; exact HAT1.out.pair) (by omega) hnc hcD2 HCA.out.1 HCA.out.2 ?_
        rintro wy A' c' p4 p105 p106 p107 p108 p109 p110 p111 p112 p113 p114 p115 p116 p117 p118 p119 p120 p121 p122 p123 p124 p125 p126 p127 p128 p129 p130 p131 p132 p133 p134 p135 p136 p137 p138 p139 p140 p141 p142 p143 p144 HWn HCn HBn
        replace SA := Lib.hid (SA.out.later HBn.out)
        replace BM := Lib.hid (BM.out.later HBn.out)
        replace U := Lib.hid (U.out.later HBn.out)
        have hl3 : l3.length = (Jb.due (now + 1000000) s.q).length := map_len HPM.out
        have hl3d : l3.length ≤ D.length := by rw [hl3]; have := (dl_len (now + 1000000) s.q).1; have := map_len HD.out; omega
        have HDN : Hid ((D.drop l3.length).map TW.w = Jb.left (now + 1000000) s.q) := Lib.hid (by rw [hl3]; exact left_drop HD.out)
        clear HBn HP HPM HCA HW hl3
        go_wp2_with fail
        go_roundg (gk - 1)
        case measure => omega
        case rel => exact ⟨i + 1, (now + 1000000), s1, A4, c4, l4, A', (D.length - l3.length), c', (D.drop l3.length), by omega, rfl, rfl, by go_num, by omega, HCn.out.1, Lib.hid (by simp), Lib.hid HCn.out.2, HNX, Lib.hid (fun h => List.map_eq_nil_iff.1 (HDN.out.trans (HEN.out h))), Lib.hid (by rw [HDN.out, HQ1.out]), SA, HWn, U⟩
      have g1 : ((i : Int) == (L.length : Int)) = false := by simp; omega
      have g2 : (i == L.length) = false := by simpa using hle
      have g3 : ((i : Int) == 60) = true := by simp; omega
      have g4 : (i == 60) = true := by simp; omega
      clear hmm hle
      obtain ⟨s1, hrun, hq1, hle⟩ := end_run HAT1.out (by omega) HNE.out
      have HRUN := Lib.hid hrun
      have HQ1 : Hid (s1.q = Jb.left (now + 1000000) s.q) := Lib.hid (hq1.trans hle.symm)
      have HEN : Hid (i + 1 = M + 1 → Jb.left (now + 1000000) s.q = []) := Lib.hid (fun _ => hle)
      have HNX : Hid (i + 1 ≤ M → AtStep (i + 1) (now + 1000000) s1 ∧ Jb.Near (now + 1000000) s1.q) := Lib.hid (fun h => by omega)
      clear hrun hq1 hle
      go_upto_region 13 with fail
      have BM : Hid (Blk (wo.alloc (.cells #[.int .i64 0, .int .i64 0, .bool false, .int .u8 0, .slice none 0 0] 29)) wo.heap.size 29 #[.int .i64 0, .int .i64 0, .bool false, .int .u8 0, .slice none 0 0]) := Lib.hid (Blk.new wo _ _)
      replace SB := Lib.hid (SB.out.push (.cells #[.int .i64 0, .int .i64 0, .bool false, .int .u8 0, .slice none 0 0] 29))
      replace HW := Lib.hid (HW.out.push (.cells #[.int .i64 0, .int .i64 0, .bool false, .int .u8 0, .slice none 0 0] 29))
      replace U := Lib.hid (Bel.push U.out (.cells #[.int .i64 0, .int .i64 0, .bool false, .int .u8 0, .slice none 0 0] 29))
      obtain ⟨wa, hwa⟩ : ∃ W, W = wo.alloc (.cells #[.int .i64 0, .int .i64 0, .bool false, .int .u8 0, .slice none 0 0] 29) := ⟨_, rfl⟩
      rw [← hwa] at BM SB HW U ⊢
      have hzl : wo.heap.size < wa.heap.size := BM.out.lt
      clear hwa
      go_upto_region 19 with fail
      refine pl19_wp wa w1.heap.size c s s1 A l (Jb.due (now + 1000000) s.q) (now + 1000000) SB.out (by omega) HAT1.out.queue.2.1 HRUN.out ?_
      rintro wx A3 c3 l3 A4 c4 l4 u87 u88 u89 u90 u91 u92 u93 HPMx HP HCA HK SA
      have HPM := Lib.hid HPMx
      clear HPMx
      replace HW := Lib.hid (HK.out.wts _ _ HW.out)
      replace BM := Lib.hid (HK.out.blk _ _ _ (by omega) BM.out)
      replace U := Lib.hid (HK.out.bel w (Nat.le_of_lt hg1) U.out)
      clear SB HK
      go_upto_block 2 with fail
      refine ploop_wp wx AD A3 D l3 cD c3 (now + 1000000) HW.out HP.out (by rw [HPM.out, HD.out]) (by rw [HD.out]; exact HAT1.out.pair) (by omega) hnc hcD2 HCA.out.1 HCA.out.2 ?_
      rintro wy A' c' p4 p105 p106 p107 p108 p109 p110 p111 p112 p113 p114 p115 p116 p117 p118 p119 p120 p121 p122 p123 p124 p125 p126 p127 p128 p129 p130 p131 p132 p133 p134 p135 p136 p137 p138 p139 p140 p141 p142 p143 p144 HWn HCn HBn
      replace SA := Lib.hid (SA.out.later HBn.out)
      replace BM := Lib.hid (BM.out.later HBn.out)
      replace U := Lib.hid (U.out.later HBn.out)
      have hl3 : l3.length = (Jb.due (now + 1000000) s.q).length := map_len HPM.out
      have hl3d : l3.length ≤ D.length := by rw [hl3]; have := (dl_len (now + 1000000) s.q).1; have := map_len HD.out; omega
      have HDN : Hid ((D.drop l3.length).map TW.w = Jb.left (now + 1000000) s.q) := Lib.hid (by rw [hl3]; exact left_drop HD.out)
      clear HBn HP HPM HCA HW hl3
      go_wp2_with fail
      go_roundg (gk - 1)
      case measure => omega
      case rel => exact ⟨i + 1, (now + 1000000), s1, A4, c4, l4, A', (D.length - l3.length), c', (D.drop l3.length), by omega, rfl, rfl, by go_num, by omega, HCn.out.1, Lib.hid (by simp), Lib.hid HCn.out.2, HNX, Lib.hid (fun h => List.map_eq_nil_iff.1 (HDN.out.trans (HEN.out h))), Lib.hid (by rw [HDN.out, HQ1.out]), SA, HWn, U⟩
    have hiL : i < L.length := by omega
    have g1 : ((i : Int) == (L.length : Int)) = false := by simp; omega
    have g2 : (i == L.length) = false := by simp; omega
    have g3 : ((i : Int) == 60) = false := by simp; omega
    have g4 : (i == 60) = false := by simp; omega
    have hi3 : (i : Int) < (L.length : Int) := by omega
    obtain ⟨x, hx⟩ : ∃ x, L[i]? = some x := ⟨_, List.getElem?_eq_getElem hiL⟩
    obtain ⟨bL, oL, hAL, hbL, f0, f1, f2, f3, f4, f5, f6⟩ := rowsS HRL.out hx
    obtain ⟨hw, hs1, hs2, hpc, hpI⟩ := HOK.out x (List.mem_of_getElem? hx)
    obtain ⟨wt0, wt1⟩ := wfu16 hw
    subst hAL
    obtain ⟨wt, idle, m, B, cB⟩ := x
    simp only at f0 f1 f2 f3 f4 f5 f6 wt0 wt1 hpI
    have HPI := Lib.hid hpI
    have hcv : IntKind.i64.wrap wt = wt := i64_small _ (by omega) (by omega)
    have hbw : bL < wo.heap.size := Nat.lt_of_lt_of_le hbL U.out.size
    have e0 := (U.out.cell (p := ⟨bL, oL + i * 7, none⟩) hbL).trans f0
    have e1 := (U.out.cell (p := ⟨bL, oL + i * 7 + 1, none⟩) hbL).trans f1
    have e2 := (U.out.cell (p := ⟨bL, oL + i * 7 + 2, none⟩) hbL).trans f2
    have e3 := (U.out.cell (p := ⟨bL, oL + i * 7 + 3, none⟩) hbL).trans f3
    have e4 := (U.out.cell (p := ⟨bL, oL + i * 7 + 4, none⟩) hbL).trans f4
    have e5 := (U.out.cell (p := ⟨bL, oL + i * 7 + 5, none⟩) hbL).trans f5
    have e6 := (U.out.cell (p := ⟨bL, oL + i * 7 + 6, none⟩) hbL).trans f6
    have HF1 := Lib.hid f1
    clear hx hpI hw hs1 hs2 hpc f0 f1 f2 f3 f4 f5 f6
    go_upto_region 16 with fail
    have BM : Hid (Blk (wo.alloc (.cells #[.int .i64 m.sq, .int .i64 m.ti, .bool m.mrk, .int .u8 m.ty, .slice B m.pl.length cB] 29)) wo.heap.size 29 #[.int .i64 m.sq, .int .i64 m.ti, .bool m.mrk, .int .u8 m.ty, .slice B m.pl.length cB]) := Lib.hid (Blk.new wo _ _)
    replace SB := Lib.hid (SB.out.push (.cells #[.int .i64 m.sq, .int .i64 m.ti, .bool m.mrk, .int .u8 m.ty, .slice B m.pl.length cB] 29))
    replace HW := Lib.hid (HW.out.push (.cells #[.int .i64 m.sq, .int .i64 m.ti, .bool m.mrk, .int .u8 m.ty, .slice B m.pl.length cB] 29))
    replace U := Lib.hid (Bel.push U.out (.cells #[.int .i64 m.sq, .int .i64 m.ti, .bool m.mrk, .int .u8 m.ty, .slice B m.pl.length cB] 29))
    obtain ⟨wa, hwa⟩ : ∃ W, W = wo.alloc (.cells #[.int .i64 m.sq, .int .i64 m.ti, .bool m.mrk, .int .u8 m.ty, .slice B m.pl.length cB] 29) := ⟨_, rfl⟩
    rw [← hwa] at BM SB HW U ⊢
    have hzl : wo.heap.size < wa.heap.size := BM.out.lt
    clear hwa
    clear e0 e1 e2 e3 e4 e5 e6
    have e1 := (U.out.cell (p := ⟨bL, oL + i * 7 + 1, none⟩) hbL).trans HF1.out
    by_cases hI : idle = true
    · subst hI
      obtain ⟨hrun, hat⟩ := HAT1.out.run (wt := wt) (by omega) wt0 wt1
      have hnl : Jb.Near (now + wt) (Jb.run0 s (now + wt)).q := Jb.near_left HNE.out (by omega)
      have hq1 : (Jb.run0 s (now + wt)).q = Jb.left (now + wt) s.q := rfl
      generalize Jb.run0 s (now + wt) = s1 at hrun hat hnl hq1
      have HRUN := Lib.hid hrun
      have HQ1 := Lib.hid hq1
      have HEN : Hid (i + 1 = M + 1 → Jb.left (now + wt) s.q = []) := Lib.hid (fun h => by omega)
      have HNX : Hid (i + 1 ≤ M → AtStep (i + 1) (now + wt) s1 ∧ Jb.Near (now + wt) s1.q) := Lib.hid (fun _ => ⟨hat, hnl⟩)
      clear hrun hat hnl hq1
      go_upto_region 19 with fail
      refine pl19_wp wa w1.heap.size c s s1 A l (Jb.due (now + wt) s.q) (now + wt) SB.out (by omega) HAT1.out.queue.2.1 HRUN.out ?_
      rintro wx A3 c3 l3 A4 c4 l4 u87 u88 u89 u90 u91 u92 u93 HPMx HP HCA HK SA
      have HPM := Lib.hid HPMx
      clear HPMx
      replace HW := Lib.hid (HK.out.wts _ _ HW.out)
      replace BM := Lib.hid (HK.out.blk _ _ _ (by omega) BM.out)
      replace U := Lib.hid (HK.out.bel w (Nat.le_of_lt hg1) U.out)
      clear SB HK
      go_upto_block 2 with fail
      refine ploop_wp wx AD A3 D l3 cD c3 (now + wt) HW.out HP.out (by rw [HPM.out, HD.out]) (by rw [HD.out]; exact HAT1.out.pair) (by omega) hnc hcD2 HCA.out.1 HCA.out.2 ?_
      rintro wy A' c' p4 p105 p106 p107 p108 p109 p110 p111 p112 p113 p114 p115 p116 p117 p118 p119 p120 p121 p122 p123 p124 p125 p126 p127 p128 p129 p130 p131 p132 p133 p134 p135 p136 p137 p138 p139 p140 p141 p142 p143 p144 HWn HCn HBn
      replace SA := Lib.hid (SA.out.later HBn.out)
      replace BM := Lib.hid (BM.out.later HBn.out)
      replace U := Lib.hid (U.out.later HBn.out)
      have hl3 : l3.length = (Jb.due (now + wt) s.q).length := map_len HPM.out
      have hl3d : l3.length ≤ D.length := by rw [hl3]; have := (dl_len (now + wt) s.q).1; have := map_len HD.out; omega
      have HDN : Hid ((D.drop l3.length).map TW.w = Jb.left (now + wt) s.q) := Lib.hid (by rw [hl3]; exact left_drop HD.out)
      clear HBn HP HPM HCA HW hl3
      go_wp2_with fail
      go_roundg (gk - 1)
      case measure => omega
      case rel => exact ⟨i + 1, (now + wt), s1, A4, c4, l4, A', (D.length - l3.length), c', (D.drop l3.length), by omega, rfl, rfl, by go_num, by omega, HCn.out.1, Lib.hid (by simp), Lib.hid HCn.out.2, HNX, Lib.hid (fun h => List.map_eq_nil_iff.1 (HDN.out.trans (HEN.out h))), Lib.hid (by rw [HDN.out, HQ1.out]), SA, HWn, U⟩
    obtain rfl : idle = false := by simpa using hI
    clear hI
    obtain ⟨fv, hfv⟩ : ∃ fv, fv = decide (Jb.Md.ok m) := ⟨_, rfl⟩
    have kf := Lib.hid fun W => rformed_big m.sq m.ti m.mrk m.ty B m.pl.length cB W fv (by rw [hfv]; rfl)
    have HFV := Lib.hid hfv
    clear hfv
    obtain ⟨m0, m1, m2, m3, m4⟩ := Blk.c5 BM.out
    go_wp2_with fail
    refine (kf.out _).mono ?_
    rintro e wf ⟨rfl, hbf⟩
    replace SB := Lib.hid (SB.out.later hbf)
    replace HW := Lib.hid (HW.out.later hbf)
    replace U := Lib.hid (U.out.later hbf)
    replace BM := Lib.hid (BM.out.later hbf)
    clear hbf m0 m1 m2 m3 m4
    obtain ⟨m0, m1, m2, m3, m4⟩ := Blk.c5 BM.out
    cases fv
    · obtain ⟨hrun, hat⟩ := HAT1.out.run (wt := wt) (by omega) wt0 wt1
      have hnl : Jb.Near (now + wt) (Jb.run0 s (now + wt)).q := Jb.near_left HNE.out (by omega)
      have hq1 : (Jb.run0 s (now + wt)).q = Jb.left (now + wt) s.q := rfl
      generalize Jb.run0 s (now + wt) = s1 at hrun hat hnl hq1
      have HRUN := Lib.hid hrun
      have HQ1 := Lib.hid hq1
      have HEN : Hid (i + 1 = M + 1 → Jb.left (now + wt) s.q = []) := Lib.hid (fun h => by omega)
      have HNX : Hid (i + 1 ≤ M → AtStep (i + 1) (now + wt) s1 ∧ Jb.Near (now + wt) s1.q) := Lib.hid (fun _ => ⟨hat, hnl⟩)
      clear hrun hat hnl hq1
      go_upto_region 19 with fail
      refine pl19_wp wf w1.heap.size c s s1 A l (Jb.due (now + wt) s.q) (now + wt) SB.out (by omega) HAT1.out.queue.2.1 HRUN.out ?_
      rintro wx A3 c3 l3 A4 c4 l4 u87 u88 u89 u90 u91 u92 u93 HPMx HP HCA HK SA
      have HPM := Lib.hid HPMx
      clear HPMx
      replace HW := Lib.hid (HK.out.wts _ _ HW.out)
      replace BM := Lib.hid (HK.out.blk _ _ _ (by omega) BM.out)
      replace U := Lib.hid (HK.out.bel w (Nat.le_of_lt hg1) U.out)
      clear SB HK
      go_upto_block 2 with fail
      refine ploop_wp wx AD A3 D l3 cD c3 (now + wt) HW.out HP.out (by rw [HPM.out, HD.out]) (by rw [HD.out]; exact HAT1.out.pair) (by omega) hnc hcD2 HCA.out.1 HCA.out.2 ?_
      rintro wy A' c' p4 p105 p106 p107 p108 p109 p110 p111 p112 p113 p114 p115 p116 p117 p118 p119 p120 p121 p122 p123 p124 p125 p126 p127 p128 p129 p130 p131 p132 p133 p134 p135 p136 p137 p138 p139 p140 p141 p142 p143 p144 HWn HCn HBn
      replace SA := Lib.hid (SA.out.later HBn.out)
      replace BM := Lib.hid (BM.out.later HBn.out)
      replace U := Lib.hid (U.out.later HBn.out)
      have hl3 : l3.length = (Jb.due (now + wt) s.q).length := map_len HPM.out
      have hl3d : l3.length ≤ D.length := by rw [hl3]; have := (dl_len (now + wt) s.q).1; have := map_len HD.out; omega
      have HDN : Hid ((D.drop l3.length).map TW.w = Jb.left (now + wt) s.q) := Lib.hid (by rw [hl3]; exact left_drop HD.out)
      clear HBn HP HPM HCA HW hl3
      go_wp2_with fail
      go_roundg (gk - 1)
      case measure => omega
      case rel => exact ⟨i + 1, (now + wt), s1, A4, c4, l4, A', (D.length - l3.length), c', (D.drop l3.length), by omega, rfl, rfl, by go_num, by omega, HCn.out.1, Lib.hid (by simp), Lib.hid HCn.out.2, HNX, Lib.hid (fun h => List.map_eq_nil_iff.1 (HDN.out.trans (HEN.out h))), Lib.hid (by rw [HDN.out, HQ1.out]), SA, HWn, U⟩
    have hmo : m.ok := by have h9 := HFV.out; rw [eq_comm, decide_eq_true_iff] at h9; exact h9
    have HMO := Lib.hid hmo
    by_cases hpl : 100 < m.pl.length
    · have hpl2 : (100 : Int) < (m.pl.length : Int) := by omega
      clear hmo
      obtain ⟨hrun, hat⟩ := HAT1.out.run (wt := wt) (by omega) wt0 wt1
      have hnl : Jb.Near (now + wt) (Jb.run0 s (now + wt)).q := Jb.near_left HNE.out (by omega)
      have hq1 : (Jb.run0 s (now + wt)).q = Jb.left (now + wt) s.q := rfl
      generalize Jb.run0 s (now + wt) = s1 at hrun hat hnl hq1
      have HRUN := Lib.hid hrun
      have HQ1 := Lib.hid hq1
      have HEN : Hid (i + 1 = M + 1 → Jb.left (now + wt) s.q = []) := Lib.hid (fun h => by omega)
      have HNX : Hid (i + 1 ≤ M → AtStep (i + 1) (now + wt) s1 ∧ Jb.Near (now + wt) s1.q) := Lib.hid (fun _ => ⟨hat, hnl⟩)
      clear hrun hat hnl hq1
      go_upto_region 19 with fail
      refine pl19_wp wf w1.heap.size c s s1 A l (Jb.due (now + wt) s.q) (now + wt) SB.out (by omega) HAT1.out.queue.2.1 HRUN.out ?_
      rintro wx A3 c3 l3 A4 c4 l4 u87 u88 u89 u90 u91 u92 u93 HPMx HP HCA HK SA
      have HPM := Lib.hid HPMx
      clear HPMx
      replace HW := Lib.hid (HK.out.wts _ _ HW.out)
      replace BM := Lib.hid (HK.out.blk _ _ _ (by omega) BM.out)
      replace U := Lib.hid (HK.out.bel w (Nat.le_of_lt hg1) U.out)
      clear SB HK
      go_upto_block 2 with fail
      refine ploop_wp wx AD A3 D l3 cD c3 (now + wt) HW.out HP.out (by rw [HPM.out, HD.out]) (by rw [HD.out]; exact HAT1.out.pair) (by omega) hnc hcD2 HCA.out.1 HCA.out.2 ?_
      rintro wy A' c' p4 p105 p106 p107 p108 p109 p110 p111 p112 p113 p114 p115 p116 p117 p118 p119 p120 p121 p122 p123 p124 p125 p126 p127 p128 p129 p130 p131 p132 p133 p134 p135 p136 p137 p138 p139 p140 p141 p142 p143 p144 HWn HCn HBn
      replace SA := Lib.hid (SA.out.later HBn.out)
      replace BM := Lib.hid (BM.out.later HBn.out)
      replace U := Lib.hid (U.out.later HBn.out)
      have hl3 : l3.length = (Jb.due (now + wt) s.q).length := map_len HPM.out
      have hl3d : l3.length ≤ D.length := by rw [hl3]; have := (dl_len (now + wt) s.q).1; have := map_len HD.out; omega
      have HDN : Hid ((D.drop l3.length).map TW.w = Jb.left (now + wt) s.q) := Lib.hid (by rw [hl3]; exact left_drop HD.out)
      clear HBn HP HPM HCA HW hl3
      go_wp2_with fail
      go_roundg (gk - 1)
      case measure => omega
      case rel => exact ⟨i + 1, (now + wt), s1, A4, c4, l4, A', (D.length - l3.length), c', (D.drop l3.length), by omega, rfl, rfl, by go_num, by omega, HCn.out.1, Lib.hid (by simp), Lib.hid HCn.out.2, HNX, Lib.hid (fun h => List.map_eq_nil_iff.1 (HDN.out.trans (HEN.out h))), Lib.hid (by rw [HDN.out, HQ1.out]), SA, HWn, U⟩
    have hpl2 : (m.pl.length : Int) ≤ (100 : Int) := by omega
    obtain ⟨s1, vd, hput, hp0, hat⟩ := HAT1.out.put (m := m) (wt := wt) (by omega) wt0 wt1 hmo
    have hways := put_ways HAT1.out (by omega) wt0 wt1 hmo hp0 HNE.out
    have HPUT := Lib.hid hput
    have HAT2 := Lib.hid hat
    have HWY := Lib.hid hways
    clear hput hp0 hat hways hmo
    go_upto_region 20 with fail
    clear m0 m1 m2 m3 m4
    refine pl20_wp wf w1.heap.size c s s1 A l (Jb.due (now + wt) s.q) (now + wt) vd wo.heap.size m B cB SB.out (by omega) HAT1.out.queue.2.1 BM.out (by omega) ((HPI.out.below U.out).more U.out.size) HPUT.out ?_
    rintro wx A3 c3 l3 A4 c4 l4 u94 u95 u96 u97 u98 u99 u100 u101 u102 HPMx HP HCA HK SA
    have HPM := Lib.hid HPMx
    clear HPMx
    replace HW := Lib.hid (HK.out.wts _ _ HW.out)
    replace BM := Lib.hid (HK.out.blk _ _ _ (by omega) BM.out)
    replace U := Lib.hid (HK.out.bel w (Nat.le_of_lt hg1) U.out)
    clear SB HK
    go_upto_block 2 with fail
    refine ploop_wp wx AD A3 D l3 cD c3 (now + wt) HW.out HP.out (by rw [HPM.out, HD.out]) (by rw [HD.out]; exact HAT1.out.pair) (by omega) hnc hcD2 HCA.out.1 HCA.out.2 ?_
    rintro wy A' c' p4 p105 p106 p107 p108 p109 p110 p111 p112 p113 p114 p115 p116 p117 p118 p119 p120 p121 p122 p123 p124 p125 p126 p127 p128 p129 p130 p131 p132 p133 p134 p135 p136 p137 p138 p139 p140 p141 p142 p143 p144 HWn HCn HBn
    replace SA := Lib.hid (SA.out.later HBn.out)
    replace BM := Lib.hid (BM.out.later HBn.out)
    replace U := Lib.hid (U.out.later HBn.out)
    have hl3 : l3.length = (Jb.due (now + wt) s.q).length := map_len HPM.out
    have hl3d : l3.length ≤ D.length := by rw [hl3]; have := (dl_len (now + wt) s.q).1; have := map_len HD.out; omega
    have HDN : Hid ((D.drop l3.length).map TW.w = Jb.left (now + wt) s.q) := Lib.hid (by rw [hl3]; exact left_drop HD.out)
    clear HBn HP HPM HCA HW hl3
    obtain ⟨x0, x1, x2, x3, x4, x5, x6, x7, x8, x9, x10, x11, x12, x13⟩ := Blk.c14 SA.out.blk
    rw [map_len SA.out.q] at x10
    obtain ⟨m0, m1, m2, m3, m4⟩ := Blk.c5 BM.out
    have hzq : s1.q.length ≤ 200 := HAT2.out.queue.1
    have hvd : (vd == 0) = false := HWY.out.elim (fun h => by rw [h.1]; rfl) (fun h => by simpa using h.2.1)
    go_wp2_with fail
    refine (playx_s2 s1 A4 l4 s1.q.length c4 m.ti _ SA.out.q (map_len SA.out.q) (by omega) SA.out.wts (keys_small SA.out.q HAT2.out.queue.2.1)).mono ?_
    rintro e wp ⟨rfl, hbp⟩
    replace SA := Lib.hid (SA.out.later hbp)
    replace BM := Lib.hid (BM.out.later hbp)
    replace U := Lib.hid (U.out.later hbp)
    replace HWn := Lib.hid (HWn.out.later hbp)
    clear hbp x0 x1 x2 x3 x4 x5 x6 x7 x8 x9 x10 x11 x12 x13 m0 m1 m2 m3 m4
    obtain ⟨AT, hAT⟩ : ∃ AT, AT = Jb.play s1 m.ti := ⟨_, rfl⟩
    rw [← hAT] at HWY ⊢
    clear hAT
    rcases HWY.out with hwy | hwy
    · obtain ⟨hv1, hlt, hq, hne⟩ := hwy
      subst hv1
      have HQ := Lib.hid hq
      have HNR := Lib.hid hne
      clear hq hne
      obtain ⟨m0, m1, m2, m3, m4⟩ := Blk.c5 BM.out
      go_upto_region 41 with fail
      go_wp2_with fail
      refine (linsert_any (D.drop l3.length) A' (D.length - l3.length) c' AT m.sq m.ti m.mrk m.ty B m.pl cB _ (by simp) (by omega) HWn.out.1).mono ?_
      rintro e wi ⟨A9, c9, rfl, hown, hbi⟩
      have hlen9 : (insT' (D.drop l3.length) ⟨⟨AT, m⟩, B, cB⟩).length = (D.drop l3.length).length + 1 := insT'_len _ _
      replace SA := Lib.hid (SA.out.later hbi)
      replace U := Lib.hid (U.out.later hbi)
      replace HWn := Lib.hid (HWn.out.later hbi)
      have HW9 : Hid (Wts wi wi.heap.size A9 (insT' (D.drop l3.length) ⟨⟨AT, m⟩, B, cB⟩)) := Lib.hid ⟨Owns.rows hown hlen9 (fun a => rfl), fun a ha => by
        rcases insT'_mem ha with rfl | ha
        · exact (HPI.out.below U.out).more U.out.size
        · exact HWn.out.2 a ha⟩
      have HC9 := Lib.hid (And.intro hown.cap (Owns.capm hown))
      have hM9 := insT'_map (D.drop l3.length) ⟨⟨AT, m⟩, B, cB⟩
      rw [HDN.out, ← HQ.out] at hM9
      have HM9 := Lib.hid hM9
      have hs9 : (D.drop l3.length).length + 1 ≤ 200 := by have h9 := congrArg List.length hM9; rw [List.length_map, hlen9] at h9; omega
      have HL9 := Lib.hid hlen9
      clear hbi hown hM9 hlen9 m0 m1 m2 m3 m4
      go_wp2_with fail
      go_roundg (gk - 1)
      case measure => omega
      case rel => exact ⟨i + 1, (now + wt), s1, A4, c4, l4, A9, (D.length - l3.length + 1), c9, (insT' (D.drop l3.length) ⟨⟨AT, m⟩, B, cB⟩), by omega, rfl, rfl, by go_num, by simpa using hs9, by simpa using HC9.out.1, Lib.hid (by simpa using HL9.out), Lib.hid HC9.out.2, Lib.hid (fun _ => ⟨HAT2.out, HNR.out⟩), Lib.hid (fun h => by omega), HM9, SA, HW9, U⟩
    · obtain ⟨hv1, hv0, hq, hne, himp⟩ := hwy
      have hvd1 : (vd == 1) = false := by simpa using hv1
      have HQ := Lib.hid hq
      have HNR := Lib.hid hne
      have HIM := Lib.hid himp
      have hll9 : (Jb.left (now + wt) s.q).length = D.length - l3.length := by have h9 := congrArg List.length HDN.out; simpa using h9.symm
      have HLL := Lib.hid hll9
      clear hq hne himp hv1 hv0 hll9
      obtain ⟨m0, m1, m2, m3, m4⟩ := Blk.c5 BM.out
      obtain ⟨x0, x1, x2, x3, x4, x5, x6, x7, x8, x9, x10, x11, x12, x13⟩ := Blk.c14 SA.out.blk
      rw [map_len SA.out.q] at x10
      by_cases c1 : AT ≤ (now + wt)
      · go_wp2_with fail
        go_roundg (gk - 1)
        case measure => omega
        case rel => exact ⟨i + 1, (now + wt), s1, A4, c4, l4, A', (D.length - l3.length), c', (D.drop l3.length), by omega, rfl, rfl, by go_num, by omega, HCn.out.1, Lib.hid (by simp), Lib.hid HCn.out.2, Lib.hid (fun _ => ⟨HAT2.out, HNR.out⟩), Lib.hid (fun h => by omega), Lib.hid (HDN.out.trans HQ.out.symm), SA, HWn, U⟩
      replace c1 : (now + wt) < AT := Int.not_le.1 c1
      by_cases c2 : (now + wt) + 120000 < AT
      · go_wp2_with fail
        go_roundg (gk - 1)
        case measure => omega
        case rel => exact ⟨i + 1, (now + wt), s1, A4, c4, l4, A', (D.length - l3.length), c', (D.drop l3.length), by omega, rfl, rfl, by go_num, by omega, HCn.out.1, Lib.hid (by simp), Lib.hid HCn.out.2, Lib.hid (fun _ => ⟨HAT2.out, HNR.out⟩), Lib.hid (fun h => by omega), Lib.hid (HDN.out.trans HQ.out.symm), SA, HWn, U⟩
      replace c2 : AT ≤ (now + wt) + 120000 := Int.not_lt.1 c2
      by_cases c3 : m.sq ≤ s1.done
      · go_wp2_with fail
        go_roundg (gk - 1)
        case measure => omega
        case rel => exact ⟨i + 1, (now + wt), s1, A4, c4, l4, A', (D.length - l3.length), c', (D.drop l3.length), by omega, rfl, rfl, by go_num, by omega, HCn.out.1, Lib.hid (by simp), Lib.hid HCn.out.2, Lib.hid (fun _ => ⟨HAT2.out, HNR.out⟩), Lib.hid (fun h => by omega), Lib.hid (HDN.out.trans HQ.out.symm), SA, HWn, U⟩
      replace c3 : s1.done < m.sq := Int.not_le.1 c3
      obtain ⟨wv, hwv⟩ : ∃ v, v = ((D.drop l3.length).map TW.w).any fun x => x.m.sq == m.sq := ⟨_, rfl⟩
      have kw := Lib.hid (waits_any (D.drop l3.length) A' (D.length - l3.length) c' m.sq _ (by simp) (by omega) HWn.out wv hwv)
      have HWV := Lib.hid hwv
      clear hwv
      go_wp2_with fail
      refine kw.out.mono ?_
      rintro e wq ⟨rfl, hbq⟩
      replace SA := Lib.hid (SA.out.later hbq)
      replace U := Lib.hid (U.out.later hbq)
      replace HWn := Lib.hid (HWn.out.later hbq)
      clear hbq m0 m1 m2 m3 m4 x0 x1 x2 x3 x4 x5 x6 x7 x8 x9 x10 x11 x12 x13
      cases wv
      rotate_left
      · go_wp2_with fail
        go_roundg (gk - 1)
        case measure => omega
        case rel => exact ⟨i + 1, (now + wt), s1, A4, c4, l4, A', (D.length - l3.length), c', (D.drop l3.length), by omega, rfl, rfl, by go_num, by omega, HCn.out.1, Lib.hid (by simp), Lib.hid HCn.out.2, Lib.hid (fun _ => ⟨HAT2.out, HNR.out⟩), Lib.hid (fun h => by omega), Lib.hid (HDN.out.trans HQ.out.symm), SA, HWn, U⟩
      have h200 : (200 : Int) ≤ ((D.length - l3.length : Nat) : Int) := by
        have h9 := HIM.out c1 c2 c3 (by rw [← HDN.out]; exact HWV.out.symm)
        rw [HLL.out] at h9
        omega
      have h200n : 200 ≤ D.length - l3.length := by omega
      go_wp2_with fail
      go_roundg (gk - 1)
      case measure => omega
      case rel => exact ⟨i + 1, (now + wt), s1, A4, c4, l4, A', (D.length - l3.length), c', (D.drop l3.length), by omega, rfl, rfl, by go_num, by omega, HCn.out.1, Lib.hid (by simp), Lib.hid HCn.out.2, Lib.hid (fun _ => ⟨HAT2.out, HNR.out⟩), Lib.hid (fun h => by omega), Lib.hid (HDN.out.trans HQ.out.symm), SA, HWn, U⟩
end Go.Proofs.Ytnaafjdnmbajjaa.jitterPlays

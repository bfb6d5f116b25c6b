/- Layer 30, JitterRuns: for every input the law returns true. -/
import Derived.Test.YtnaafjdnmbajjaaJtLensQ
import Derived.Test.YtnaafjdnmbajjaaJtRg18Q
import Derived.Test.YtnaafjdnmbajjaaJtRr3
namespace Go.Proofs.Ytnaafjdnmbajjaa.jitterRuns
open Go.RowKit
set_option linter.unusedVariables false
set_option linter.unusedSimpArgs false
attribute [local go_sem ↓] run_min_plain run_max_plain
attribute [local go_sem] setCell_drewN alloc_drewN
set_option maxRecDepth 100000 in
set_option maxHeartbeats 12800000 in
theorem walk (w : World) (a b : Int) (AL : Option Addr) (L : List TStep) (cL : Nat) (hcL : L.length ≤ cL) (hmL : cL ≤ maxLen) (hRL : RowsAt w w.heap.size 7 TStep.row AL L) (hok : ∀ x ∈ L, TStep.ok w x) : Calls Try.prog 4 #[.agg #[.int .i64 a, .int .i64 b], .slice AL L.length cL] w fun e w' => e = .returned (.bool true) ∧ Below w.heap.size w w' := by
  have U0 := Lib.hid ((Bel.refl w).push (.cells #[.int .i64 a, .int .i64 b] 23))
  have BC := Lib.hid (Blk.new w 23 #[.int .i64 a, .int .i64 b])
  have HRL := Lib.hid hRL
  have HOK := Lib.hid hok
  clear hRL hok
  unfold maxLen at hmL
  have k1 := Lib.hid fun (W : World) => new_any a b W
  have k2 := Lib.hid fun (W : World) => rnew_any a b W
  unfold NewR at k1 k2
  by_cases hc : Jb.cfg a b
  rotate_left
  · rw [show Jb.new a b = (Jb.Jt.none, 3) from if_neg hc] at k1 k2
    clear hc
    simp only [JV, Jb.Jt.none] at k1 k2
    go_enter Try.func4, Try.ntmps4
    have d0 := BC.out.at 0 _ rfl
    have d1 := BC.out.at 1 _ rfl
    go_wp2_with fail
    refine (k1.out _).mono ?_
    rintro e w1 ⟨rfl, hb1⟩
    have U1 := Lib.hid (Bel.push (U0.out.later hb1) (.cells #[.int .i64 0, .int .i64 0, .int .i64 0, .bool false, .int .i64 0, .int .i64 0, .int .i64 0, .int .i64 0, .int .i64 0, .int .i64 0, .slice none 0 0, .int .i64 0, .int .i64 0, .int .i64 0] 26))
    have BC1 := Lib.hid ((BC.out.later hb1).push (.cells #[.int .i64 0, .int .i64 0, .int .i64 0, .bool false, .int .i64 0, .int .i64 0, .int .i64 0, .int .i64 0, .int .i64 0, .int .i64 0, .slice none 0 0, .int .i64 0, .int .i64 0, .int .i64 0] 26))
    clear hb1 d0 d1
    have d0 := BC1.out.at 0 _ rfl
    have d1 := BC1.out.at 1 _ rfl
    go_wp2_with fail
    refine (k2.out _).mono ?_
    rintro e w2 ⟨rfl, hb2⟩
    have U2 := Lib.hid (Bel.push (U1.out.later hb2) (.cells #[.int .i64 0, .int .i64 0, .int .i64 0, .bool false, .int .i64 0, .int .i64 0, .int .i64 0, .int .i64 0, .int .i64 0, .int .i64 0, .slice none 0 0, .int .i64 0, .int .i64 0, .int .i64 0] 26))
    clear hb2 d0 d1
    go_wp2_with fail
    refine (lives_any _).mono ?_
    rintro e w3 ⟨rfl, hb3⟩
    have U3 := Lib.hid (U2.out.later hb3)
    clear hb3
    go_wp2_with fail
    go_ret
    exact ⟨by first | rfl | simp, U3.out⟩
  have HC := Lib.hid hc
  have e1 : Jb.new a b = ((Jb.new a b).1, 0) := by unfold Jb.new; rw [if_pos hc]
  have hq0 : (Jb.new a b).1.q = [] := by unfold Jb.new; rw [if_pos hc]
  have HAT := Lib.hid (AtStep.init hc)
  rw [e1] at k1 k2
  generalize (Jb.new a b).1 = s0 at k1 k2 hq0 HAT
  have HQ0 := Lib.hid hq0
  clear e1 hc hq0
  simp only [JV] at k1 k2
  obtain ⟨M, hM⟩ : ∃ M, M = min L.length 60 := ⟨_, rfl⟩
  have hM1 : M ≤ L.length := by omega
  have hM2 : M ≤ 60 := by omega
  have HM := Lib.hid hM
  clear hM
  go_enter Try.func4, Try.ntmps4
  have d0 := BC.out.at 0 _ rfl
  have d1 := BC.out.at 1 _ rfl
  go_wp2_with fail
  refine (k1.out _).mono ?_
  rintro e w1 ⟨rfl, hb1⟩
  have U1 := Lib.hid (Bel.push (U0.out.later hb1) (.cells (JL s0 none 0 0).toArray 26))
  have BC1 := Lib.hid ((BC.out.later hb1).push (.cells (JL s0 none 0 0).toArray 26))
  have SB1 : Hid (SBox (w1.alloc (.cells (JL s0 none 0 0).toArray 26)) w1.heap.size s0 none 0 []) := Lib.hid ⟨Blk.new w1 _ _, HQ0.out.symm, Nat.le_refl _, by unfold maxLen; omega, Wts.empty⟩
  have hg1 : w.heap.size < w1.heap.size := by have := hb1.size; simp at this; omega
  clear hb1 d0 d1
  have d0 := BC1.out.at 0 _ rfl
  have d1 := BC1.out.at 1 _ rfl
  simp only [JL] at d0 d1
  go_wp2_with fail
  refine (k2.out _).mono ?_
  rintro e w2 ⟨rfl, hb2⟩
  have U2 := Lib.hid (Bel.push (U1.out.later hb2) (.cells (JL s0 none 0 0).toArray 26))
  have SB2 : Hid (SBox (w2.alloc (.cells (JL s0 none 0 0).toArray 26)) w1.heap.size s0 none 0 []) := Lib.hid ((SB1.out.later hb2).push _)
  have SR2 : Hid (SBox (w2.alloc (.cells (JL s0 none 0 0).toArray 26)) w2.heap.size s0 none 0 []) := Lib.hid ⟨Blk.new w2 _ _, HQ0.out.symm, Nat.le_refl _, by unfold maxLen; omega, Wts.empty⟩
  have hg2 : w1.heap.size < w2.heap.size := by have := hb2.size; simp at this; omega
  clear hb2 d0 d1 SB1 U1 BC1 U0 BC k1 k2
  go_wp2_with fail
  go_loopg [9, 10] M (fun gk s9 s10 wr => ∃ (i : Nat) (now : Int) (s : Jb.Jt) (A : Option Addr) (c : Nat) (l : List TW) (A' : Option Addr) (c' : Nat) (l' : List TW), gk + i = M ∧ s9 = .int .i64 now ∧ s10 = .int .i64 i ∧ Hid (AtStep i now s) ∧ Hid (SBox wr w1.heap.size s A c l) ∧ Hid (SBox wr w2.heap.size s A' c' l') ∧ Hid (Bel w wr))
  case atStart => exact ⟨0, 0, s0, none, 0, [], none, 0, [], by omega, rfl, rfl, HAT, SB2, SR2, U2⟩
  case round =>
    obtain ⟨i, now, s, A, c, l, A', c', l', hgk, rfl, rfl, HS, SB, SR, U⟩ := hrel
    obtain ⟨wo, hwo⟩ : ∃ W, W = wr := ⟨_, rfl⟩
    subst hwo
    have hi0 : (0 : Int) ≤ (i : Int) := by omega
    by_cases hiM : i < M
    rotate_left
    · obtain rfl : i = M := by omega
      have hmm := HM.out
      by_cases hle : i < L.length
      · have h60 : i = 60 := by omega
        have h61 : (60 : Int) ≤ (i : Int) := by omega
        have hle2 : (i : Int) < (L.length : Int) := by omega
        clear hmm h60
        go_wp2_with fail
        refine (lives_any _).mono ?_
        rintro e w3 ⟨rfl, hb3⟩
        have U3 := Lib.hid (U.out.later hb3)
        clear hb3
        go_wp2_with fail
        go_ret
        exact ⟨by first | rfl | simp, U3.out⟩
      have hle2 : (L.length : Int) ≤ (i : Int) := by omega
      clear hmm
      go_wp2_with fail
      refine (lives_any _).mono ?_
      rintro e w3 ⟨rfl, hb3⟩
      have U3 := Lib.hid (U.out.later hb3)
      clear hb3
      go_wp2_with fail
      go_ret
      exact ⟨by first | rfl | simp, U3.out⟩
    have hi1 : (i : Int) < (L.length : Int) := by omega
    have hi2 : (i : Int) < 60 := by omega
    obtain ⟨x, hx⟩ : ∃ x, L[i]? = some x := ⟨_, List.getElem?_eq_getElem (by omega)⟩
    obtain ⟨bL, oL, hAL, hbL, f0, f1, f2, f3, f4, f5, f6⟩ := rowsS HRL.out hx
    obtain ⟨hw, hs1, hs2, hpc, hpI⟩ := HOK.out x (List.mem_of_getElem? hx)
    obtain ⟨wt0, wt1⟩ := wfu16 hw
    subst hAL
    obtain ⟨wt, idle, m, B, cB⟩ := x
    simp only at f0 f1 f2 f3 f4 f5 f6 wt0 wt1 hpI
    have hbw : bL < wo.heap.size := Nat.lt_of_lt_of_le hbL U.out.size
    have e0 := (U.out.cell (p := ⟨bL, oL + i * 7, none⟩) hbL).trans f0
    have e1 := (U.out.cell (p := ⟨bL, oL + i * 7 + 1, none⟩) hbL).trans f1
    have e2 := (U.out.cell (p := ⟨bL, oL + i * 7 + 2, none⟩) hbL).trans f2
    have e3 := (U.out.cell (p := ⟨bL, oL + i * 7 + 3, none⟩) hbL).trans f3
    have e4 := (U.out.cell (p := ⟨bL, oL + i * 7 + 4, none⟩) hbL).trans f4
    have e5 := (U.out.cell (p := ⟨bL, oL + i * 7 + 5, none⟩) hbL).trans f5
    have e6 := (U.out.cell (p := ⟨bL, oL + i * 7 + 6, none⟩) hbL).trans f6
    have HPI := Lib.hid hpI
    have hcv : IntKind.i64.wrap wt = wt := i64_small _ (by omega) (by omega)
    have hn0 := HS.out.now0
    have hn1 := HS.out.now1
    have hql := HS.out.queue.1
    have hlen : l.length ≤ 200 := by rw [map_len SB.out.q]; exact hql
    have hlen' : l'.length ≤ 200 := by rw [map_len SR.out.q]; exact hql
    clear hx f0 f1 f2 f3 f4 f5 f6 hpI hw hs1 hs2 hpc
    have hsr := SR.out.blk.lt
    by_cases hI : idle = true
    · subst hI
      obtain ⟨hrun, hat⟩ := HS.out.run (wt := wt) (by omega) wt0 wt1
      have hdl := due_le (now + wt) s.q
      generalize Jb.run0 s (now + wt) = s1 at hrun hat
      generalize Jb.due (now + wt) s.q = lp at hrun hdl
      have HRUN := Lib.hid hrun
      have HAT1 := Lib.hid hat
      have hq1 := hat.queue.1
      clear hrun hat
      go_upto_region 11 with fail
      clear e0 e1 e2 e3 e4 e5 e6
      refine rr11_wp w _ w1.heap.size c s s1 A l lp (now + wt) SB.out U.out (by omega) HS.out.queue.2.1 HRUN.out ?_
      rintro wb ga A3 c3 l3 A4 c4 l4 u81 u82 u83 u84 u85 u86 u87 HPMx HP hga HBx SA U1
      have HPM := Lib.hid HPMx
      replace SB := Lib.hid (SB.out.later HBx.out)
      replace SR := Lib.hid (SR.out.later HBx.out)
      clear U HBx HPMx
      go_upto_region 12 with fail
      refine rr12_wp w _ w2.heap.size c' s s1 A' l' lp (now + wt) SR.out U1.out (by omega) HS.out.queue.2.2 HRUN.out ?_
      rintro wc gb A5 c5 l5 A6 c6 l6 t88 t89 t90 t91 t92 t93 t94 HRMx HR hgb HBx SC U
      have HRM := Lib.hid HRMx
      have hgab : ga < gb := by have := SA.out.blk.lt; omega
      replace SB := Lib.hid (SB.out.later HBx.out)
      replace SR := Lib.hid (SR.out.later HBx.out)
      replace SA := Lib.hid (SA.out.later HBx.out)
      replace HP := Lib.hid (HP.out.later HBx.out)
      clear U1 HBx HRMx
      go_upto_region 13 with fail
      refine rr13_wp _ ga gb c4 c6 c3 c5 s1 A4 A6 A3 A5 l4 l6 l3 l5 lp 0 0 SA.out SC.out HP.out HR.out HPM.out HRM.out (by omega) (by omega) ?_
      rintro wd v95 v96 v97 v98 v99 v100 v101 v102 v103 v104 v105 v106 v107 HBx
      replace SB := Lib.hid (SB.out.later HBx.out)
      replace SR := Lib.hid (SR.out.later HBx.out)
      replace SA := Lib.hid (SA.out.later HBx.out)
      replace SC := Lib.hid (SC.out.later HBx.out)
      replace U := Lib.hid (U.out.later HBx.out)
      clear HBx HP HR HPM HRM
      go_upto_region 15 with fail
      have hsr2 := SR.out.blk.lt
      have hsb2 := SB.out.blk.lt
      refine rr15_wp _ w1.heap.size ga c c4 s s1 A A4 l l4 (by omega) SB.out SA.out ?_
      intro y1
      have SB8 := Lib.hid (SB.out.store (s' := s1) SA.out.q SA.out.cap SA.out.cm SA.out.wts)
      have SR8 := Lib.hid (SR.out.other (g' := w1.heap.size) (by omega) SB.out.blk (JL s1 A4 l4.length c4))
      have SC8 := Lib.hid (SC.out.other (g' := w1.heap.size) (by omega) SB.out.blk (JL s1 A4 l4.length c4))
      have Ux := Lib.hid (below_setRow (Nat.le_of_lt hg1) (JL s1 A4 l4.length c4) _ 0 U.out)
      obtain ⟨v8, hv8⟩ : ∃ W, W = setRow w1.heap.size wd 0 (JL s1 A4 l4.length c4) := ⟨_, rfl⟩
      rw [← hv8] at SB8 SR8 SC8 Ux ⊢
      clear hv8 SB SR SC SA U
      go_upto_region 16 with fail
      refine rr16_wp _ w2.heap.size gb c' c6 s s1 A' A6 l' l6 (by omega) SR8.out SC8.out ?_
      intro y2
      have SR9 := Lib.hid (SR8.out.store (s' := s1) SC8.out.q SC8.out.cap SC8.out.cm SC8.out.wts)
      have SB9 := Lib.hid (SB8.out.other (g' := w2.heap.size) (by omega) SR8.out.blk (JL s1 A6 l6.length c6))
      have U9 : Hid (Bel w (setRow w2.heap.size v8 0 (JL s1 A6 l6.length c6))) := Lib.hid (below_setRow (by omega) (JL s1 A6 l6.length c6) _ 0 Ux.out)
      obtain ⟨v9, hv9⟩ : ∃ W, W = setRow w2.heap.size v8 0 (JL s1 A6 l6.length c6) := ⟨_, rfl⟩
      rw [← hv9] at SB9 SR9 U9 ⊢
      clear hv9 SB8 SR8 SC8 Ux
      go_wp2_with fail
      go_roundg (gk - 1)
      case measure => omega
      case rel => exact ⟨i + 1, (now + wt), s1, A4, c4, l4, A6, c6, l6, by omega, rfl, by go_num, HAT1, SB9, SR9, U9⟩
    obtain rfl : idle = false := by simpa using hI
    clear hI
    by_cases hP : 100 < m.pl.length
    · have hp2 : (100 : Int) < (m.pl.length : Int) := by omega
      obtain ⟨hrun, hat⟩ := HS.out.run (wt := wt) (by omega) wt0 wt1
      have hdl := due_le (now + wt) s.q
      generalize Jb.run0 s (now + wt) = s1 at hrun hat
      generalize Jb.due (now + wt) s.q = lp at hrun hdl
      have HRUN := Lib.hid hrun
      have HAT1 := Lib.hid hat
      have hq1 := hat.queue.1
      clear hrun hat
      go_upto_region 11 with fail
      clear e0 e1 e2 e3 e4 e5 e6
      refine rr11_wp w _ w1.heap.size c s s1 A l lp (now + wt) SB.out U.out (by omega) HS.out.queue.2.1 HRUN.out ?_
      rintro wb ga A3 c3 l3 A4 c4 l4 u81 u82 u83 u84 u85 u86 u87 HPMx HP hga HBx SA U1
      have HPM := Lib.hid HPMx
      replace SB := Lib.hid (SB.out.later HBx.out)
      replace SR := Lib.hid (SR.out.later HBx.out)
      clear U HBx HPMx
      go_upto_region 12 with fail
      refine rr12_wp w _ w2.heap.size c' s s1 A' l' lp (now + wt) SR.out U1.out (by omega) HS.out.queue.2.2 HRUN.out ?_
      rintro wc gb A5 c5 l5 A6 c6 l6 t88 t89 t90 t91 t92 t93 t94 HRMx HR hgb HBx SC U
      have HRM := Lib.hid HRMx
      have hgab : ga < gb := by have := SA.out.blk.lt; omega
      replace SB := Lib.hid (SB.out.later HBx.out)
      replace SR := Lib.hid (SR.out.later HBx.out)
      replace SA := Lib.hid (SA.out.later HBx.out)
      replace HP := Lib.hid (HP.out.later HBx.out)
      clear U1 HBx HRMx
      go_upto_region 13 with fail
      refine rr13_wp _ ga gb c4 c6 c3 c5 s1 A4 A6 A3 A5 l4 l6 l3 l5 lp 0 0 SA.out SC.out HP.out HR.out HPM.out HRM.out (by omega) (by omega) ?_
      rintro wd v95 v96 v97 v98 v99 v100 v101 v102 v103 v104 v105 v106 v107 HBx
      replace SB := Lib.hid (SB.out.later HBx.out)
      replace SR := Lib.hid (SR.out.later HBx.out)
      replace SA := Lib.hid (SA.out.later HBx.out)
      replace SC := Lib.hid (SC.out.later HBx.out)
      replace U := Lib.hid (U.out.later HBx.out)
      clear HBx HP HR HPM HRM
      go_upto_region 15 with fail
      have hsr2 := SR.out.blk.lt
      have hsb2 := SB.out.blk.lt
      refine rr15_wp _ w1.heap.size ga c c4 s s1 A A4 l l4 (by omega) SB.out SA.out ?_
      intro y1
      have SB8 := Lib.hid (SB.out.store (s' := s1) SA.out.q SA.out.cap SA.out.cm SA.out.wts)
      have SR8 := Lib.hid (SR.out.other (g' := w1.heap.size) (by omega) SB.out.blk (JL s1 A4 l4.length c4))
      have SC8 := Lib.hid (SC.out.other (g' := w1.heap.size) (by omega) SB.out.blk (JL s1 A4 l4.length c4))
      have Ux := Lib.hid (below_setRow (Nat.le_of_lt hg1) (JL s1 A4 l4.length c4) _ 0 U.out)
      obtain ⟨v8, hv8⟩ : ∃ W, W = setRow w1.heap.size wd 0 (JL s1 A4 l4.length c4) := ⟨_, rfl⟩
      rw [← hv8] at SB8 SR8 SC8 Ux ⊢
      clear hv8 SB SR SC SA U
      go_upto_region 16 with fail
      refine rr16_wp _ w2.heap.size gb c' c6 s s1 A' A6 l' l6 (by omega) SR8.out SC8.out ?_
      intro y2
      have SR9 := Lib.hid (SR8.out.store (s' := s1) SC8.out.q SC8.out.cap SC8.out.cm SC8.out.wts)
      have SB9 := Lib.hid (SB8.out.other (g' := w2.heap.size) (by omega) SR8.out.blk (JL s1 A6 l6.length c6))
      have U9 : Hid (Bel w (setRow w2.heap.size v8 0 (JL s1 A6 l6.length c6))) := Lib.hid (below_setRow (by omega) (JL s1 A6 l6.length c6) _ 0 Ux.out)
      obtain ⟨v9, hv9⟩ : ∃ W, W = setRow w2.heap.size v8 0 (JL s1 A6 l6.length c6) := ⟨_, rfl⟩
      rw [← hv9] at SB9 SR9 U9 ⊢
      clear hv9 SB8 SR8 SC8 Ux
      go_wp2_with fail
      go_roundg (gk - 1)
      case measure => omega
      case rel => exact ⟨i + 1, (now + wt), s1, A4, c4, l4, A6, c6, l6, by omega, rfl, by go_num, HAT1, SB9, SR9, U9⟩
    have hp2 : (m.pl.length : Int) ≤ (100 : Int) := by omega
    by_cases hmo : m.ok
    rotate_left
    · have hput := AtStep.bad (i := i) (s := s) (now := now) (wt := wt) hmo
      have HPUT := Lib.hid hput
      have hkp := HS.out.keep (wt := wt) (by omega) wt0 wt1
      have HKP := Lib.hid hkp
      clear hput hkp hmo
      go_wp2_with fail
      clear e0 e1
      refine rg17_wp w _ w1.heap.size c s Jb.Jt.none A l [] 0 2 bL oL L.length cL (now + wt) i m B cB SB.out U.out (Nat.le_of_lt hg1) (by omega) HS.out.queue.2.1 HPUT.out (by omega) (by omega) hbw e2 e3 e4 e5 e6 (by omega) ((HPI.out.below U.out).more U.out.size) ?_
      rintro wb ga A3 c3 l3 A4 c4 l4 u111 u112 u113 u114 u115 u116 u117 u118 u119 u120 u121 u122 u123 HPMx HP hga HBx SA U1
      have HPM := Lib.hid HPMx
      replace SB := Lib.hid (SB.out.later HBx.out)
      replace SR := Lib.hid (SR.out.later HBx.out)
      replace e2 := cell_old HBx.out e2
      replace e3 := cell_old HBx.out e3
      replace e4 := cell_old HBx.out e4
      replace e5 := cell_old HBx.out e5
      replace e6 := cell_old HBx.out e6
      have hbw2 : bL < wb.heap.size := Nat.lt_of_lt_of_le hbw HBx.out.size
      clear U HBx HPMx
      go_wp2_with fail
      refine rg18_wp w _ w2.heap.size c' s Jb.Jt.none A' l' [] 0 2 bL oL L.length cL (now + wt) i m B cB SR.out U1.out (by omega) (by omega) HS.out.queue.2.2 HPUT.out (by omega) (by omega) hbw2 e2 e3 e4 e5 e6 (by omega) ((HPI.out.below U1.out).more U1.out.size) ?_
      rintro wc gb A5 c5 l5 A6 c6 l6 t124 t125 t126 t127 t128 t129 t130 t131 t132 t133 t134 t135 t136 HRMx HR hgb HBx SC U
      have HRM := Lib.hid HRMx
      have hgab : ga < gb := by have := SA.out.blk.lt; omega
      replace SB := Lib.hid (SB.out.later HBx.out)
      replace SR := Lib.hid (SR.out.later HBx.out)
      replace SA := Lib.hid (SA.out.later HBx.out)
      replace HP := Lib.hid (HP.out.later HBx.out)
      clear U1 HBx HRMx e2 e3 e4 e5 e6
      go_upto_region 19 with fail
      refine rr19_wp _ ga gb c4 c6 c3 c5 Jb.Jt.none A4 A6 A3 A5 l4 l6 l3 l5 [] 0 2 SA.out SC.out HP.out HR.out HPM.out HRM.out (Nat.zero_le _) (Nat.zero_le _) ?_
      rintro wd v137 v138 v139 v140 v141 v142 v143 v144 v145 v146 v147 v148 v149 v150 v151 v152 v153 v154 v155 HBx
      replace SB := Lib.hid (SB.out.later HBx.out)
      replace SR := Lib.hid (SR.out.later HBx.out)
      replace SA := Lib.hid (SA.out.later HBx.out)
      replace SC := Lib.hid (SC.out.later HBx.out)
      replace U := Lib.hid (U.out.later HBx.out)
      clear HBx HP HR HPM HRM
      go_wp2_with fail
      go_roundg (gk - 1)
      case measure => omega
      case rel => exact ⟨i + 1, (now + wt), s, A, c, l, A', c', l', by omega, rfl, by go_num, HKP, SB, SR, U⟩
    obtain ⟨s1, vd, hput, _, hat⟩ := HS.out.put (m := m) (wt := wt) (by omega) wt0 wt1 hmo
    have hdl := due_le (now + wt) s.q
    generalize Jb.due (now + wt) s.q = lp at hput hdl
    have HPUT := Lib.hid hput
    have HAT1 := Lib.hid hat
    have hq1 := hat.queue.1
    clear hput hat hmo
    go_wp2_with fail
    clear e0 e1
    refine rg17_wp w _ w1.heap.size c s s1 A l lp vd 0 bL oL L.length cL (now + wt) i m B cB SB.out U.out (Nat.le_of_lt hg1) (by omega) HS.out.queue.2.1 HPUT.out (by omega) (by omega) hbw e2 e3 e4 e5 e6 (by omega) ((HPI.out.below U.out).more U.out.size) ?_
    rintro wb ga A3 c3 l3 A4 c4 l4 u111 u112 u113 u114 u115 u116 u117 u118 u119 u120 u121 u122 u123 HPMx HP hga HBx SA U1
    have HPM := Lib.hid HPMx
    replace SB := Lib.hid (SB.out.later HBx.out)
    replace SR := Lib.hid (SR.out.later HBx.out)
    replace e2 := cell_old HBx.out e2
    replace e3 := cell_old HBx.out e3
    replace e4 := cell_old HBx.out e4
    replace e5 := cell_old HBx.out e5
    replace e6 := cell_old HBx.out e6
    have hbw2 : bL < wb.heap.size := Nat.lt_of_lt_of_le hbw HBx.out.size
    clear U HBx HPMx
    go_wp2_with fail
    refine rg18_wp w _ w2.heap.size c' s s1 A' l' lp vd 0 bL oL L.length cL (now + wt) i m B cB SR.out U1.out (by omega) (by omega) HS.out.queue.2.2 HPUT.out (by omega) (by omega) hbw2 e2 e3 e4 e5 e6 (by omega) ((HPI.out.below U1.out).more U1.out.size) ?_
    rintro wc gb A5 c5 l5 A6 c6 l6 t124 t125 t126 t127 t128 t129 t130 t131 t132 t133 t134 t135 t136 HRMx HR hgb HBx SC U
    have HRM := Lib.hid HRMx
    have hgab : ga < gb := by have := SA.out.blk.lt; omega
    replace SB := Lib.hid (SB.out.later HBx.out)
    replace SR := Lib.hid (SR.out.later HBx.out)
    replace SA := Lib.hid (SA.out.later HBx.out)
    replace HP := Lib.hid (HP.out.later HBx.out)
    clear U1 HBx HRMx e2 e3 e4 e5 e6
    go_upto_region 19 with fail
    refine rr19_wp _ ga gb c4 c6 c3 c5 s1 A4 A6 A3 A5 l4 l6 l3 l5 lp vd 0 SA.out SC.out HP.out HR.out HPM.out HRM.out (by omega) (by omega) ?_
    rintro wd v137 v138 v139 v140 v141 v142 v143 v144 v145 v146 v147 v148 v149 v150 v151 v152 v153 v154 v155 HBx
    replace SB := Lib.hid (SB.out.later HBx.out)
    replace SR := Lib.hid (SR.out.later HBx.out)
    replace SA := Lib.hid (SA.out.later HBx.out)
    replace SC := Lib.hid (SC.out.later HBx.out)
    replace U := Lib.hid (U.out.later HBx.out)
    clear HBx HP HR HPM HRM
    obtain ⟨x0, x1, x2, x3, x4, x5, x6, x7, x8, x9, x10, x11, x12, x13⟩ := Blk.c14 SA.out.blk
    rw [map_len SA.out.q] at x10
    go_wp2_with fail
    clear x0 x1 x2 x3 x4 x5 x6 x7 x8 x9 x10 x11 x12 x13
    refine (rvalid_s2 s1 A4 l4 s1.q.length c4 _ SA.out.q (map_len SA.out.q) (by omega) SA.out.wts (fun a ha => HAT1.out.queue.2.2 a.w (by rw [← SA.out.q]; exact List.mem_map.2 ⟨a, ha, rfl⟩)) true HAT1.out.valid.symm).mono ?_
    rintro e w8 ⟨rfl, hb8⟩
    replace SB := Lib.hid (SB.out.later hb8)
    replace SR := Lib.hid (SR.out.later hb8)
    replace SA := Lib.hid (SA.out.later hb8)
    replace SC := Lib.hid (SC.out.later hb8)
    replace U := Lib.hid (U.out.later hb8)
    clear hb8
    go_upto_region 24 with fail
    have hsr2 := SR.out.blk.lt
    have hsb2 := SB.out.blk.lt
    refine rr24_wp _ w1.heap.size ga c c4 s s1 A A4 l l4 (by omega) SB.out SA.out ?_
    intro y1
    have SB8 := Lib.hid (SB.out.store (s' := s1) SA.out.q SA.out.cap SA.out.cm SA.out.wts)
    have SR8 := Lib.hid (SR.out.other (g' := w1.heap.size) (by omega) SB.out.blk (JL s1 A4 l4.length c4))
    have SC8 := Lib.hid (SC.out.other (g' := w1.heap.size) (by omega) SB.out.blk (JL s1 A4 l4.length c4))
    have Ux := Lib.hid (below_setRow (Nat.le_of_lt hg1) (JL s1 A4 l4.length c4) _ 0 U.out)
    obtain ⟨v8, hv8⟩ : ∃ W, W = setRow w1.heap.size w8 0 (JL s1 A4 l4.length c4) := ⟨_, rfl⟩
    rw [← hv8] at SB8 SR8 SC8 Ux ⊢
    clear hv8 SB SR SC SA U
    go_upto_region 25 with fail
    refine rr25_wp _ w2.heap.size gb c' c6 s s1 A' A6 l' l6 (by omega) SR8.out SC8.out ?_
    intro y2
    have SR9 := Lib.hid (SR8.out.store (s' := s1) SC8.out.q SC8.out.cap SC8.out.cm SC8.out.wts)
    have SB9 := Lib.hid (SB8.out.other (g' := w2.heap.size) (by omega) SR8.out.blk (JL s1 A6 l6.length c6))
    have U9 : Hid (Bel w (setRow w2.heap.size v8 0 (JL s1 A6 l6.length c6))) := Lib.hid (below_setRow (by omega) (JL s1 A6 l6.length c6) _ 0 Ux.out)
    obtain ⟨v9, hv9⟩ : ∃ W, W = setRow w2.heap.size v8 0 (JL s1 A6 l6.length c6) := ⟨_, rfl⟩
    rw [← hv9] at SB9 SR9 U9 ⊢
    clear hv9 SB8 SR8 SC8 Ux
    go_wp2_with fail
    go_roundg (gk - 1)
    case measure => omega
    case rel => exact ⟨i + 1, (now + wt), s1, A4, c4, l4, A6, c6, l6, by omega, rfl, by go_num, HAT1, SB9, SR9, U9⟩
end Go.Proofs.Ytnaafjdnmbajjaa.jitterRuns

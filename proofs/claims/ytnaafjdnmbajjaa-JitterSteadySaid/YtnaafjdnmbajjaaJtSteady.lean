/- Layer 30, JitterSteady: for every input the law returns true. -/
import Derived.Test.YtnaafjdnmbajjaaJtSteadyPQ
import Derived.Test.YtnaafjdnmbajjaaJtTypes2
import Derived.Test.YtnaafjdnmbajjaaJtRPutGbQ
namespace Go.Proofs.Ytnaafjdnmbajjaa.jitterSteady
open Go.RowKit
set_option linter.unusedVariables false
set_option linter.unusedSimpArgs false
attribute [local go_sem ↓] run_min_plain run_max_plain
attribute [local go_sem] setCell_drewN alloc_drewN
theorem wf_u16 {z : Int} (h : (Lit.int .u16 z).wf = true) : 0 ≤ z ∧ z ≤ 65535 := by
  have e1 : IntKind.u16.min = 0 := by decide
  have e2 : IntKind.u16.max = 65535 := by decide
  simpa [Lit.wf, e1, e2] using h
theorem wf_i32 {z : Int} (h : (Lit.int .i32 z).wf = true) : -2147483648 ≤ z ∧ z ≤ 2147483647 := by
  have e1 : IntKind.i32.min = -2147483648 := by decide
  have e2 : IntKind.i32.max = 2147483647 := by decide
  simpa [Lit.wf, e1, e2] using h
theorem wf_u8 {z : Int} (h : (Lit.int .u8 z).wf = true) : 0 ≤ z ∧ z ≤ 255 := by
  have e1 : IntKind.u8.min = 0 := by decide
  have e2 : IntKind.u8.max = 255 := by decide
  simpa [Lit.wf, e1, e2] using h
set_option maxRecDepth 100000 in
set_option maxHeartbeats 12800000 in
theorem walk (w : World) (a b : Int) (q : Int) (wq : (Lit.int .u16 q).wf = true) (t : Int) (wt : (Lit.int .i32 t).wf = true) (ct : Int) (wc : (Lit.int .u8 ct).wf = true) : Calls Try.prog 5 #[.agg #[.int .i64 a, .int .i64 b], .int .u16 q, .int .i32 t, .int .u8 ct] w fun e w' => e = .returned (.bool true) ∧ Below w.heap.size w w' := by
  obtain ⟨q0, q1⟩ := wf_u16 wq
  obtain ⟨t0, t1⟩ := wf_i32 wt
  obtain ⟨c0, c1⟩ := wf_u8 wc
  clear wq wt wc
  have U0 := Lib.hid ((Bel.refl w).push (.cells #[.int .i64 a, .int .i64 b] 23))
  have BC := Lib.hid (Blk.new w 23 #[.int .i64 a, .int .i64 b])
  have k1 := Lib.hid fun (W : World) => new_any a b W
  unfold NewR at k1
  by_cases hc : Jb.cfg a b
  rotate_left
  · rw [show Jb.new a b = (Jb.Jt.none, 3) from if_neg hc] at k1
    clear hc
    go_enter Try.func5, Try.ntmps5
    go_wp2_with fail
    refine (k1.out _).mono ?_
    rintro e w1 ⟨rfl, hb1⟩
    simp only [JV]
    have U1 := Lib.hid (Bel.push (U0.out.later hb1) (.cells #[.int .i64 0, .int .i64 0, .int .i64 0, .bool false, .int .i64 0, .int .i64 0, .int .i64 0, .int .i64 0, .int .i64 0, .int .i64 0, .slice none 0 0, .int .i64 0, .int .i64 0, .int .i64 0] 26))
    clear hb1
    simp only [Jb.Jt.none]
    go_wp2_with fail
    refine (lives_any _).mono ?_
    rintro e w2 ⟨rfl, hb2⟩
    have U2 := Lib.hid (U1.out.later hb2)
    clear hb2
    go_wp2_with fail
    go_ret
    exact ⟨by first | rfl | simp, U2.out⟩
  have e1 : Jb.new a b = (Jb.stS a b q t 0, 0) := by unfold Jb.stS Jb.new; rw [if_pos hc, if_pos rfl]
  rw [e1] at k1
  have HC := Lib.hid hc
  have ha1 : 1 ≤ a := hc.1
  have ha2 : a ≤ 1000 := by have := hc.2; omega
  have hq0 : (Jb.stS a b q t 0).q = [] := by unfold Jb.stS Jb.new; rw [if_pos rfl, if_pos hc]
  have HQ0 := Lib.hid hq0
  have hst := Jb.stS_step (l := a) (m := b) (q := q) (t := t) hc ⟨q0, q1⟩ ⟨t0, t1⟩
  have HST := Lib.hid hst
  obtain ⟨r, hr⟩ : ∃ r : Nat, ct % 60 = (r : Int) := ⟨(ct % 60).toNat, by omega⟩
  have hr59 : r ≤ 59 := by omega
  have hend := Jb.stS_end (l := a) (m := b) (q := q) (t := t) hc ⟨q0, q1⟩ ⟨t0, t1⟩ r hr59 _ rfl
  have HEND := Lib.hid hend
  have hmz : Jb.mnS a 0 = 0 := Jb.cnt_zero a ha1
  have HMZ := Lib.hid hmz
  clear e1 hc hq0 hst hend hmz
  go_enter Try.func5, Try.ntmps5
  have d0 := BC.out.at 0 _ rfl
  have d1 := BC.out.at 1 _ rfl
  go_wp2_with fail
  refine (k1.out _).mono ?_
  rintro e w1 ⟨rfl, hb1⟩
  clear d0 d1
  have U1 := Lib.hid (Bel.push (U0.out.later hb1) (.cells (JL (Jb.stS a b q t 0) none 0 0).toArray 26))
  have BC1 := Lib.hid ((BC.out.later hb1).push (.cells (JL (Jb.stS a b q t 0) none 0 0).toArray 26))
  have SB1 : Hid (SBox (w1.alloc (.cells (JL (Jb.stS a b q t 0) none 0 0).toArray 26)) w1.heap.size (Jb.stS a b q t 0) none 0 []) := Lib.hid ⟨Blk.new w1 _ _, HQ0.out.symm, Nat.le_refl _, by unfold maxLen; omega, Wts.empty⟩
  have hgw : w.heap.size < w1.heap.size := by have := hb1.size; simp at this; omega
  clear hb1 k1 U0 BC
  simp only [JV]
  go_wp2_with fail
  clear hr
  go_loopg [13, 14] (r + 1) (fun gk s13 s14 wr => ∃ (i m : Nat) (A : Option Addr) (c : Nat) (l : List TW), gk + i = r + 1 ∧ s13 = .int .i64 m ∧ s14 = .int .i64 i ∧ Hid (m = Jb.mnS a i) ∧ Hid (SBox wr w1.heap.size (Jb.stS a b q t i) A c l) ∧ Hid (Blk wr w.heap.size 23 #[.int .i64 a, .int .i64 b]) ∧ Hid (Bel w wr))
  case atStart => exact ⟨0, 0, none, 0, [], rfl, rfl, rfl, Lib.hid HMZ.out.symm, SB1, BC1, U1⟩
  case round =>
    obtain ⟨i, m, A, c, l, hgk, rfl, rfl, HM, SB, BC2, U2⟩ := hrel
    obtain ⟨wo, hwo⟩ : ∃ W, W = wr := ⟨_, rfl⟩
    subst hwo
    obtain ⟨g0, hg0⟩ : ∃ g0, g0 = gk := ⟨_, rfl⟩
    subst hg0
    have hi0 : (0 : Int) ≤ (i : Int) := by omega
    have hmi : m ≤ i := by rw [HM.out]; exact (Jb.mnS_le ha1 i).2.2
    obtain ⟨hlq, hkq⟩ := Jb.stS_q (q := q) (t := t) HC.out i
    have hll : l.length ≤ i := by have h9 := congrArg List.length SB.out.q; rw [List.length_map] at h9; omega
    have HKQ := Lib.hid hkq
    clear hlq hkq
    by_cases hik : i < r + 1
    rotate_left
    · obtain rfl : i = r + 1 := by omega
      obtain ⟨s', lp, hrun, hmn, hl0, ht0, hp0, hs0⟩ := HEND.out
      have hx : 1 + (r : Int) ≤ ((r + 1 : Nat) : Int) := by omega
      obtain ⟨b0, b1, b2, b3, b4, b5, b6, b7, b8, b9, b10, b11, b12, b13⟩ := Blk.c14 SB.out.blk
      have hgl := SB.out.blk.lt
      have HRUN := Lib.hid hrun
      have HF := Lib.hid (And.intro (And.intro hl0 ht0) (And.intro hp0 hs0))
      clear hl0 ht0 hp0 hs0
      have hks : ∀ x ∈ (Jb.stS a b q t (r + 1)).q, I64 x.m.sq := fun x hx => by
        obtain ⟨j, e, hj⟩ := HKQ.out x hx
        rw [e]
        show I64 (q + (j : Int))
        unfold I64
        omega
      have HKS := Lib.hid hks
      clear hks hrun
      go_wp2_with fail
      refine (jrun_st _ A l l.length c (5000 + 20 * (1 + (r : Int)) + 2000) _ SB.out.q rfl (by omega) SB.out.cap SB.out.cm SB.out.wts (keys_small SB.out.q HKS.out)).mono ?_
      rintro e w4 hjr
      obtain ⟨A9, c9, l9, A8, c8, l8, rfl, h1, h2, h3, h4, h5, h6, hb4⟩ := run_e HRUN.out hjr
      have hl9 : m + l9.length = r + 1 := by have h9 := congrArg List.length h1; rw [List.length_map] at h9; rw [HM.out]; omega
      have SBo := SB.out.later hb4
      have SB5 := Lib.hid (SBo.store (s' := s') h2 h5 h6 h4)
      have UWx : Bel w (setRow w1.heap.size w4 0 (JL s' A8 l8.length c8)) := below_setRow (Nat.le_of_lt hgw) _ w4 0 (U2.out.later hb4)
      have UW5 := Lib.hid UWx
      have sfz := SBo.blk.frozen
      clear UWx b0 b1 b2 b3 b4 b5 b6 b7 b8 b9 b10 b11 b12 b13
      obtain ⟨b0, b1, b2, b3, b4, b5, b6, b7, b8, b9, b10, b11, b12, b13⟩ := Blk.c14 SBo.blk
      have hg2 := SBo.blk.lt
      clear SBo hb4 hjr h1 h2 h3 h4 h5 h6 hgl SB U2 BC2
      obtain ⟨W5, hW5⟩ : ∃ W, W = setRow w1.heap.size w4 0 (JL s' A8 l8.length c8) := ⟨_, rfl⟩
      rw [← hW5] at SB5 UW5
      simp only [JL, setRow, Nat.zero_add, Nat.reduceAdd] at hW5
      simp only [JL]
      go_upto_region 21 with fail
      rw [← hW5]
      clear hW5 sfz hg2 b0 b1 b2 b3 b4 b5 b6 b7 b8 b9 b10 b11 b12 b13
      obtain ⟨e0, e1, e2, e3, e4, e5, e6, e7, e8, e9, e10, e11, e12, e13⟩ := Blk.c14 SB5.out.blk
      obtain ⟨⟨hl0, ht0⟩, ⟨hp0, hs0⟩⟩ := HF.out
      rw [hl0] at e11
      rw [ht0] at e12
      rw [hp0] at e13
      rw [hs0] at e8
      have hsum : (m : Int) + (l9.length : Int) = 1 + (r : Int) := by omega
      have hp1 : ((r + 1 : Nat) : Int) = 1 + (r : Int) := by omega
      rw [hp1] at e13
      clear hl0 ht0 hp0 hs0 hmn hl9 hp1
      go_wp2_with fail
      refine (lives_any _).mono ?_
      rintro e w6 ⟨rfl, hb6⟩
      have UW6 := Lib.hid (UW5.out.later hb6)
      clear hb6
      go_wp2_with fail
      go_ret
      exact ⟨by first | rfl | simp, UW6.out⟩
    have hx : (i : Int) < 1 + (r : Int) := by omega
    go_wp2_with fail
    have hgs : w.heap.size ≤ w1.heap.size := Nat.le_of_lt hgw
    have hks : ∀ x ∈ (Jb.stS a b q t i).q, I64 x.m.sq := fun x hx => by
      obtain ⟨j, e, hj⟩ := HKQ.out x hx
      rw [e]
      show I64 (q + (j : Int))
      unfold I64
      omega
    refine str10_wp q t i (by omega) q0 q1 t0 t1 w _ w1.heap.size c (Jb.stS a b q t i) (Jb.stS a b q t (i + 1)) A l (Jb.stq a q t (Jb.mnS a i) (Jb.mnS a (i + 1) - Jb.mnS a i)) 1 0 SB.out U2.out hgs (by omega) hks (HST.out i (by omega)) ?_
    rintro wb g2 A3 c3 l3 A4 c4 l4 u39 u40 u41 u42 u43 u44 u45 u46 u47 u48 u49 u50 u51 u52 u53 u54 u55 u56 u57 u58 u59 hm3 P3 hg2 HB3 SC3 UW3
    have SB3 := Lib.hid (SB.out.later HB3.out)
    have BC3 := Lib.hid (BC2.out.later HB3.out)
    have hsz : w1.heap.size < wo.heap.size := SB.out.blk.lt
    clear SB BC2 U2 HB3 hks hgs
    have hl3 : l3.length = Jb.mnS a (i + 1) - Jb.mnS a i := by have h9 := congrArg List.length hm3; rw [List.length_map, Jb.stq_len] at h9; exact h9
    obtain ⟨hmn1, hmn2, _⟩ := Jb.mnS_le ha1 i
    have HM3 := Lib.hid hm3
    have hmm : m + l3.length = Jb.mnS a (i + 1) := by rw [HM.out]; omega
    have HMM := Lib.hid hmm
    have hle : m + l3.length ≤ i := by omega
    have HL3 := Lib.hid hl3
    clear hm3 hl3 hmn1 hmn2 hmm
    go_wp2_with fail
    go_loopg [13, 19] l3.length (fun gj s13 s19 wz => ∃ k : Nat, gj + k = l3.length ∧ s13 = .int .i64 ((m + k : Nat) : Int) ∧ s19 = .int .i64 k ∧ Hid (SBox wz w1.heap.size (Jb.stS a b q t i) A c l) ∧ Hid (SBox wz g2 (Jb.stS a b q t (i + 1)) A4 c4 l4) ∧ Hid (Wts wz wz.heap.size A3 l3) ∧ Hid (Blk wz w.heap.size 23 #[.int .i64 a, .int .i64 b]) ∧ Hid (Bel w wz))
    case atStart => exact ⟨0, rfl, rfl, rfl, SB3, SC3, P3, BC3, UW3⟩
    case round =>
      obtain ⟨k, hgj, rfl, rfl, SB4, SC4, P4, BC4, U4⟩ := hrel
      obtain ⟨wz, hwz⟩ : ∃ W, W = wr := ⟨_, rfl⟩
      subst hwz
      have hk0 : (0 : Int) ≤ (k : Int) := by omega
      by_cases hkl : k < l3.length
      rotate_left
      · obtain rfl : k = l3.length := by omega
        have hkk : (l3.length : Int) ≤ (l3.length : Int) := Int.le_refl _
        obtain ⟨e0, e1, e2, e3, e4, e5, e6, e7, e8, e9, e10, e11, e12, e13⟩ := Blk.c14 SC4.out.blk
        obtain ⟨b0, b1, b2, b3, b4, b5, b6, b7, b8, b9, b10, b11, b12, b13⟩ := Blk.c14 SB4.out.blk
        have sfz := SB4.out.blk.frozen
        have hg4 := SC4.out.blk.lt
        have hg5 := SB4.out.blk.lt
        have SB5 := Lib.hid (SB4.out.store (s' := Jb.stS a b q t (i + 1)) SC4.out.q SC4.out.cap SC4.out.cm SC4.out.wts)
        have UWx : Bel w (setRow w1.heap.size wz 0 (JL (Jb.stS a b q t (i + 1)) A4 l4.length c4)) := below_setRow (Nat.le_of_lt hgw) _ wz 0 U4.out
        have UW5 := Lib.hid UWx
        have BC5 := Lib.hid (BC4.out.farRow (g' := w1.heap.size) (by omega) (JL (Jb.stS a b q t (i + 1)) A4 l4.length c4) wz 0)
        clear UWx SB4 SC4 U4 BC4
        go_wp2_with fail
        obtain ⟨W5, hW5⟩ : ∃ W, W = setRow w1.heap.size wz 0 (JL (Jb.stS a b q t (i + 1)) A4 l4.length c4) := ⟨_, rfl⟩
        rw [← hW5] at SB5 UW5 BC5
        simp only [JL, setRow, Nat.zero_add, Nat.reduceAdd] at hW5
        rw [← hW5]
        go_roundg (g0 - 1)
        case measure => omega
        case rel => exact ⟨i + 1, m + l3.length, A4, c4, l4, by omega, rfl, by go_num, Lib.hid HMM.out, SB5, BC5, UW5⟩
      have hk1 : (k : Int) < (l3.length : Int) := by omega
      obtain ⟨x, hx3⟩ : ∃ x, l3[k]? = some x := ⟨_, List.getElem?_eq_getElem hkl⟩
      obtain ⟨bq, oq, rfl, hbq, f0, f1, f2, f3, f4, f5⟩ := rowsW P4.out.1 hx3
      have hxw : x.w = Jb.swt a q t (Jb.mnS a i + k) := by
        have h9 := Jb.stq_get a q t (Jb.mnS a i) (Jb.mnS a (i + 1) - Jb.mnS a i) k (by rw [← HL3.out]; exact hkl)
        rw [← HM3.out, List.getElem?_map, hx3] at h9
        simpa using h9
      rw [hxw, ← HM.out] at f0 f1
      obtain ⟨mk, hmk⟩ : ∃ mk, mk = m + k := ⟨_, rfl⟩
      have g0' : wz.cell? ⟨bq, oq + k * 6, none⟩ = some (.int .i64 (5000 + a + 20 * (mk : Int))) := by rw [hmk]; exact f0
      have g1' : wz.cell? ⟨bq, oq + k * 6 + 1, none⟩ = some (.int .i64 (q + (mk : Int))) := by rw [hmk]; exact f1
      rw [← hmk]
      have hmk2 : mk ≤ 100 := by omega
      have v1 : IntKind.i64.wrap (5000 + a) = 5000 + a := i64_small _ (by omega) (by omega)
      have v2 : IntKind.i64.wrap (20 * (mk : Int)) = 20 * (mk : Int) := i64_small _ (by omega) (by omega)
      have v3 : IntKind.i64.wrap (5000 + a + 20 * (mk : Int)) = 5000 + a + 20 * (mk : Int) := i64_small _ (by omega) (by omega)
      have v4 : IntKind.i64.wrap q = q := i64_small _ (by omega) (by omega)
      have v5 : IntKind.i64.wrap (q + (mk : Int)) = q + (mk : Int) := i64_small _ (by omega) (by omega)
      have v6 : IntKind.i64.wrap ((mk : Int) + 1) = (mk : Int) + 1 := i64_small _ (by omega) (by omega)
      have HMK := Lib.hid hmk
      have d0 := BC4.out.at 0 _ rfl
      clear hx3 hxw f0 f1 f2 f3 f4 f5 hmk
      go_wp2_with fail
      go_quiet (fail)
      clear v1 v2 v3 v4 v5
      go_wp2_with fail
      go_roundg (gk - 1)
      case measure => omega
      case rel => exact ⟨k + 1, by omega, by have := HMK.out; rw [show m + (k + 1) = mk + 1 by omega]; go_num, by go_num, Lib.hid (SB4.out.later (Bel.drewN (Bel.refl _) _)), Lib.hid (SC4.out.later (Bel.drewN (Bel.refl _) _)), Lib.hid P4.out, Lib.hid (BC4.out.drewN _), Lib.hid (Bel.drewN U4.out _)⟩
end Go.Proofs.Ytnaafjdnmbajjaa.jitterSteady

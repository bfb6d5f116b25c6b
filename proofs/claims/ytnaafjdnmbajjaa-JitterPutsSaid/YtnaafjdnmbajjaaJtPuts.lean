/- Layer 30, JitterPuts: for every input the law returns true. -/
import Derived.Test.YtnaafjdnmbajjaaJtLv5Q
import Derived.Test.YtnaafjdnmbajjaaJtRPutGbQ
namespace Go.Proofs.Ytnaafjdnmbajjaa.jitterPuts
open Go.RowKit
set_option linter.unusedVariables false
set_option linter.unusedSimpArgs false
attribute [local go_sem ↓] run_min_plain run_max_plain
attribute [local go_sem] setCell_drewN alloc_drewN
set_option maxRecDepth 100000 in
set_option maxHeartbeats 12800000 in
theorem walk (w : World) (s : Jb.Jt) (A : Option Addr) (l : List TW) (c : Nat) (hq : l.map TW.w = s.q) (hc : l.length ≤ c) (hm : c ≤ maxLen) (hW : Wts w w.heap.size A l) (hT : ∀ a ∈ l, TW.ok w a) (now : Int) (wt : (Lit.int .i64 now).wf = true) (m : Jb.Md) (M : Option Addr) (mc : Nat) (hMI : IntsAt w w.heap.size .u8 M m.pl) : Calls Try.prog 3 #[.agg #[.int .i64 s.least, .int .i64 s.most, .int .i64 s.now, .bool s.on, .int .i64 s.zero, .int .i64 s.first, .int .i64 s.high, .int .i64 s.done, .int .i64 s.spread, .int .i64 s.trans, .slice A l.length c, .int .i64 s.late, .int .i64 s.twice, .int .i64 s.played], .int .i64 now, .agg #[.int .i64 m.sq, .int .i64 m.ti, .bool m.mrk, .int .u8 m.ty, .slice M m.pl.length mc]] w fun e w' => e = .returned (.bool true) ∧ Below w.heap.size w w' := by
  obtain ⟨fv, hfv⟩ : ∃ fv, fv = decide (l.length ≤ 220 ∧ ∀ a ∈ l, a.w.m.pl.length ≤ 2000) := ⟨_, rfl⟩
  have U0 := Lib.hid (((Bel.refl w).push (.cells #[.int .i64 s.least, .int .i64 s.most, .int .i64 s.now, .bool s.on, .int .i64 s.zero, .int .i64 s.first, .int .i64 s.high, .int .i64 s.done, .int .i64 s.spread, .int .i64 s.trans, .slice A l.length c, .int .i64 s.late, .int .i64 s.twice, .int .i64 s.played] 26)).push (.cells #[.int .i64 m.sq, .int .i64 m.ti, .bool m.mrk, .int .u8 m.ty, .slice M m.pl.length mc] 29))
  have BS := Lib.hid ((Blk.new w 26 #[.int .i64 s.least, .int .i64 s.most, .int .i64 s.now, .bool s.on, .int .i64 s.zero, .int .i64 s.first, .int .i64 s.high, .int .i64 s.done, .int .i64 s.spread, .int .i64 s.trans, .slice A l.length c, .int .i64 s.late, .int .i64 s.twice, .int .i64 s.played]).push (.cells #[.int .i64 m.sq, .int .i64 m.ti, .bool m.mrk, .int .u8 m.ty, .slice M m.pl.length mc] 29))
  have BM := Lib.hid (Blk.new1 w (.cells #[.int .i64 s.least, .int .i64 s.most, .int .i64 s.now, .bool s.on, .int .i64 s.zero, .int .i64 s.first, .int .i64 s.high, .int .i64 s.done, .int .i64 s.spread, .int .i64 s.trans, .slice A l.length c, .int .i64 s.late, .int .i64 s.twice, .int .i64 s.played] 26) 29 #[.int .i64 m.sq, .int .i64 m.ti, .bool m.mrk, .int .u8 m.ty, .slice M m.pl.length mc])
  have HW := Lib.hid hW
  have HFV := Lib.hid hfv
  have HT := Lib.hid hT
  have HQ := Lib.hid hq
  have HMI := Lib.hid hMI
  have k1 := Lib.hid fun (W : World) (hb : Bel w W) => few_any s A l l.length c W rfl ((HW.out.below hb).more hb.size) fv hfv
  clear hW hfv hT hq hMI
  go_enter Try.func3, Try.ntmps3
  go_wp2_with fail
  refine (k1.out _ U0.out).mono ?_
  rintro e w1 ⟨rfl, hb1⟩
  have U1 := Lib.hid (U0.out.later hb1)
  have BS1 := Lib.hid (BS.out.later hb1)
  have BM1 := Lib.hid (BM.out.later hb1)
  clear hb1
  cases fv
  · go_wp2_with fail
    refine (lives_any _).mono ?_
    rintro e w2 ⟨rfl, hb2⟩
    have U2 := Lib.hid (U1.out.later hb2)
    clear hb2
    go_wp2_with fail
    go_ret
    exact ⟨by first | rfl | simp, U2.out⟩
  have m0 := (BM1.out).at 0 _ rfl
  have m1 := (BM1.out).at 1 _ rfl
  have m2 := (BM1.out).at 2 _ rfl
  have m3 := (BM1.out).at 3 _ rfl
  have m4 := (BM1.out).at 4 _ rfl
  by_cases hpl : m.pl.length ≤ 2000
  rotate_left
  · have hpl2 : (2000 : Int) < (m.pl.length : Int) := by omega
    go_wp2_with fail
    refine (lives_any _).mono ?_
    rintro e w2 ⟨rfl, hb2⟩
    have U2 := Lib.hid (U1.out.later hb2)
    clear hb2
    go_wp2_with fail
    go_ret
    exact ⟨by first | rfl | simp, U2.out⟩
  have hpl2 : (m.pl.length : Int) ≤ (2000 : Int) := by omega
  have s0 := (BS1.out).at 0 _ rfl
  have s1 := (BS1.out).at 1 _ rfl
  have s2 := (BS1.out).at 2 _ rfl
  have s3 := (BS1.out).at 3 _ rfl
  have s4 := (BS1.out).at 4 _ rfl
  have s5 := (BS1.out).at 5 _ rfl
  have s6 := (BS1.out).at 6 _ rfl
  have s7 := (BS1.out).at 7 _ rfl
  have s8 := (BS1.out).at 8 _ rfl
  have s9 := (BS1.out).at 9 _ rfl
  have s10 := (BS1.out).at 10 _ rfl
  have s11 := (BS1.out).at 11 _ rfl
  have s12 := (BS1.out).at 12 _ rfl
  have s13 := (BS1.out).at 13 _ rfl
  have hk : ∀ a ∈ l, I64 a.w.m.sq := fun a ha => (HT.out a ha).2.1
  have HK := Lib.hid hk
  have hsm := HFV.out
  rw [eq_comm, decide_eq_true_iff] at hsm
  have hl2 : l.length ≤ 220 := hsm.1
  have HP := Lib.hid (fun (a : TW) (ha : a ∈ l) => Nat.le_trans (hsm.2 a ha) (by omega : 2000 ≤ 1000000000))
  have hqn : s.q.length = l.length := by rw [← HQ.out, List.length_map]
  have hpn := put_len s now m
  have hrn := run_len s now
  rw [hqn] at hpn hrn
  have HPN := Lib.hid hpn
  have HRN := Lib.hid hrn
  clear hk hsm hqn hpn hrn
  have HWW := Lib.hid fun (V : World) (hb : Bel w V) => (HW.out.below hb).more hb.size
  have HMM := Lib.hid fun (V : World) (hb : Bel w V) => (HMI.out.below hb).more hb.size
  have k2 := Lib.hid fun (V : World) (hb : Bel w V) => jput_st s A l l.length c now m M m.pl.length mc V HQ.out rfl (by omega) hc hm (HWW.out V hb) HK.out rfl (by omega) (HMM.out V hb)
  have k3 := Lib.hid fun (V : World) (hb : Bel w V) => rput_st s A l l.length c now m M m.pl.length mc V HQ.out rfl (by omega) hc hm (HWW.out V hb) HP.out rfl (by omega) (HMM.out V hb)
  have k4 := Lib.hid fun (V : World) (hb : Bel w V) => jrun_st s A l l.length c now V HQ.out rfl (by omega) hc hm (HWW.out V hb) HK.out
  have k5 := Lib.hid fun (V : World) (hb : Bel w V) => rrun_st s A l l.length c now V HQ.out rfl (by omega) hc hm (HWW.out V hb) HP.out
  replace k2 := Lib.hid fun (V : World) (hb : Bel w V) => (k2.out V hb).mono fun _ _ h => JPutR.n h
  replace k3 := Lib.hid fun (V : World) (hb : Bel w V) => (k3.out V hb).mono fun _ _ h => JPutR.n h
  replace k4 := Lib.hid fun (V : World) (hb : Bel w V) => (k4.out V hb).mono fun _ _ h => JRunR.n h
  replace k5 := Lib.hid fun (V : World) (hb : Bel w V) => (k5.out V hb).mono fun _ _ h => JRunR.n h
  generalize Jb.put s now m = PP at k2 k3 HPN
  generalize Jb.run s now = RR at k4 k5 HRN
  obtain ⟨ps, pl1, pv, pe⟩ := PP
  obtain ⟨rs, rl1, re⟩ := RR
  simp only at k2 k3 k4 k5 HPN HRN
  go_wp2_with fail
  refine (k2.out _ U1.out).mono ?_
  rintro e w2 ⟨Pa, cpa, lpa, Qa, cqa, lqa, rfl, hpa, hqa, hwa, hva, hcqa, hcma, hb2⟩
  clear s0 s1 s2 s3 s4 s5 s6 s7 s8 s9 s10 s11 s12 s13
  try clear m0 m1 m2 m3 m4
  replace U1 := Lib.hid ((U1.out.later hb2).push (.cells #[.int .i64 ps.least, .int .i64 ps.most, .int .i64 ps.now, .bool ps.on, .int .i64 ps.zero, .int .i64 ps.first, .int .i64 ps.high, .int .i64 ps.done, .int .i64 ps.spread, .int .i64 ps.trans, .slice Qa ps.q.length cqa, .int .i64 ps.late, .int .i64 ps.twice, .int .i64 ps.played] 26))
  replace BS1 := Lib.hid ((BS1.out.later hb2).push (.cells #[.int .i64 ps.least, .int .i64 ps.most, .int .i64 ps.now, .bool ps.on, .int .i64 ps.zero, .int .i64 ps.first, .int .i64 ps.high, .int .i64 ps.done, .int .i64 ps.spread, .int .i64 ps.trans, .slice Qa ps.q.length cqa, .int .i64 ps.late, .int .i64 ps.twice, .int .i64 ps.played] 26))
  replace BM1 := Lib.hid ((BM1.out.later hb2).push (.cells #[.int .i64 ps.least, .int .i64 ps.most, .int .i64 ps.now, .bool ps.on, .int .i64 ps.zero, .int .i64 ps.first, .int .i64 ps.high, .int .i64 ps.done, .int .i64 ps.spread, .int .i64 ps.trans, .slice Qa ps.q.length cqa, .int .i64 ps.late, .int .i64 ps.twice, .int .i64 ps.played] 26))
  have Ba := Lib.hid (Blk.new w2 26 #[.int .i64 ps.least, .int .i64 ps.most, .int .i64 ps.now, .bool ps.on, .int .i64 ps.zero, .int .i64 ps.first, .int .i64 ps.high, .int .i64 ps.done, .int .i64 ps.spread, .int .i64 ps.trans, .slice Qa ps.q.length cqa, .int .i64 ps.late, .int .i64 ps.twice, .int .i64 ps.played])
  have HAa := Lib.hid (hwa.push (.cells #[.int .i64 ps.least, .int .i64 ps.most, .int .i64 ps.now, .bool ps.on, .int .i64 ps.zero, .int .i64 ps.first, .int .i64 ps.high, .int .i64 ps.done, .int .i64 ps.spread, .int .i64 ps.trans, .slice Qa ps.q.length cqa, .int .i64 ps.late, .int .i64 ps.twice, .int .i64 ps.played] 26))
  have HQa := Lib.hid (hva.push (.cells #[.int .i64 ps.least, .int .i64 ps.most, .int .i64 ps.now, .bool ps.on, .int .i64 ps.zero, .int .i64 ps.first, .int .i64 ps.high, .int .i64 ps.done, .int .i64 ps.spread, .int .i64 ps.trans, .slice Qa ps.q.length cqa, .int .i64 ps.late, .int .i64 ps.twice, .int .i64 ps.played] 26))
  have HPEa := Lib.hid hpa
  have HQEa := Lib.hid hqa
  clear hb2 hpa hqa hwa hva
  simp only [JV]
  have s0 := (BS1.out).at 0 _ rfl
  have s1 := (BS1.out).at 1 _ rfl
  have s2 := (BS1.out).at 2 _ rfl
  have s3 := (BS1.out).at 3 _ rfl
  have s4 := (BS1.out).at 4 _ rfl
  have s5 := (BS1.out).at 5 _ rfl
  have s6 := (BS1.out).at 6 _ rfl
  have s7 := (BS1.out).at 7 _ rfl
  have s8 := (BS1.out).at 8 _ rfl
  have s9 := (BS1.out).at 9 _ rfl
  have s10 := (BS1.out).at 10 _ rfl
  have s11 := (BS1.out).at 11 _ rfl
  have s12 := (BS1.out).at 12 _ rfl
  have s13 := (BS1.out).at 13 _ rfl
  have m0 := (BM1.out).at 0 _ rfl
  have m1 := (BM1.out).at 1 _ rfl
  have m2 := (BM1.out).at 2 _ rfl
  have m3 := (BM1.out).at 3 _ rfl
  have m4 := (BM1.out).at 4 _ rfl
  go_wp2_with fail
  refine (k3.out _ U1.out).mono ?_
  rintro e w3 ⟨Pb, cpb, lpb, Qb, cqb, lqb, rfl, hpb, hqb, hwb, hvb, hcqb, hcmb, hb3⟩
  clear s0 s1 s2 s3 s4 s5 s6 s7 s8 s9 s10 s11 s12 s13
  try clear m0 m1 m2 m3 m4
  replace U1 := Lib.hid ((U1.out.later hb3).push (.cells #[.int .i64 ps.least, .int .i64 ps.most, .int .i64 ps.now, .bool ps.on, .int .i64 ps.zero, .int .i64 ps.first, .int .i64 ps.high, .int .i64 ps.done, .int .i64 ps.spread, .int .i64 ps.trans, .slice Qb ps.q.length cqb, .int .i64 ps.late, .int .i64 ps.twice, .int .i64 ps.played] 26))
  replace BS1 := Lib.hid ((BS1.out.later hb3).push (.cells #[.int .i64 ps.least, .int .i64 ps.most, .int .i64 ps.now, .bool ps.on, .int .i64 ps.zero, .int .i64 ps.first, .int .i64 ps.high, .int .i64 ps.done, .int .i64 ps.spread, .int .i64 ps.trans, .slice Qb ps.q.length cqb, .int .i64 ps.late, .int .i64 ps.twice, .int .i64 ps.played] 26))
  replace BM1 := Lib.hid ((BM1.out.later hb3).push (.cells #[.int .i64 ps.least, .int .i64 ps.most, .int .i64 ps.now, .bool ps.on, .int .i64 ps.zero, .int .i64 ps.first, .int .i64 ps.high, .int .i64 ps.done, .int .i64 ps.spread, .int .i64 ps.trans, .slice Qb ps.q.length cqb, .int .i64 ps.late, .int .i64 ps.twice, .int .i64 ps.played] 26))
  replace Ba := Lib.hid ((Ba.out.later hb3).push (.cells #[.int .i64 ps.least, .int .i64 ps.most, .int .i64 ps.now, .bool ps.on, .int .i64 ps.zero, .int .i64 ps.first, .int .i64 ps.high, .int .i64 ps.done, .int .i64 ps.spread, .int .i64 ps.trans, .slice Qb ps.q.length cqb, .int .i64 ps.late, .int .i64 ps.twice, .int .i64 ps.played] 26))
  replace HAa := Lib.hid ((HAa.out.later hb3).push (.cells #[.int .i64 ps.least, .int .i64 ps.most, .int .i64 ps.now, .bool ps.on, .int .i64 ps.zero, .int .i64 ps.first, .int .i64 ps.high, .int .i64 ps.done, .int .i64 ps.spread, .int .i64 ps.trans, .slice Qb ps.q.length cqb, .int .i64 ps.late, .int .i64 ps.twice, .int .i64 ps.played] 26))
  replace HQa := Lib.hid ((HQa.out.later hb3).push (.cells #[.int .i64 ps.least, .int .i64 ps.most, .int .i64 ps.now, .bool ps.on, .int .i64 ps.zero, .int .i64 ps.first, .int .i64 ps.high, .int .i64 ps.done, .int .i64 ps.spread, .int .i64 ps.trans, .slice Qb ps.q.length cqb, .int .i64 ps.late, .int .i64 ps.twice, .int .i64 ps.played] 26))
  have Bb := Lib.hid (Blk.new w3 26 #[.int .i64 ps.least, .int .i64 ps.most, .int .i64 ps.now, .bool ps.on, .int .i64 ps.zero, .int .i64 ps.first, .int .i64 ps.high, .int .i64 ps.done, .int .i64 ps.spread, .int .i64 ps.trans, .slice Qb ps.q.length cqb, .int .i64 ps.late, .int .i64 ps.twice, .int .i64 ps.played])
  have HAb := Lib.hid (hwb.push (.cells #[.int .i64 ps.least, .int .i64 ps.most, .int .i64 ps.now, .bool ps.on, .int .i64 ps.zero, .int .i64 ps.first, .int .i64 ps.high, .int .i64 ps.done, .int .i64 ps.spread, .int .i64 ps.trans, .slice Qb ps.q.length cqb, .int .i64 ps.late, .int .i64 ps.twice, .int .i64 ps.played] 26))
  have HQb := Lib.hid (hvb.push (.cells #[.int .i64 ps.least, .int .i64 ps.most, .int .i64 ps.now, .bool ps.on, .int .i64 ps.zero, .int .i64 ps.first, .int .i64 ps.high, .int .i64 ps.done, .int .i64 ps.spread, .int .i64 ps.trans, .slice Qb ps.q.length cqb, .int .i64 ps.late, .int .i64 ps.twice, .int .i64 ps.played] 26))
  have HPEb := Lib.hid hpb
  have HQEb := Lib.hid hqb
  clear hb3 hpb hqb hwb hvb
  simp only [JV]
  have s0 := (BS1.out).at 0 _ rfl
  have s1 := (BS1.out).at 1 _ rfl
  have s2 := (BS1.out).at 2 _ rfl
  have s3 := (BS1.out).at 3 _ rfl
  have s4 := (BS1.out).at 4 _ rfl
  have s5 := (BS1.out).at 5 _ rfl
  have s6 := (BS1.out).at 6 _ rfl
  have s7 := (BS1.out).at 7 _ rfl
  have s8 := (BS1.out).at 8 _ rfl
  have s9 := (BS1.out).at 9 _ rfl
  have s10 := (BS1.out).at 10 _ rfl
  have s11 := (BS1.out).at 11 _ rfl
  have s12 := (BS1.out).at 12 _ rfl
  have s13 := (BS1.out).at 13 _ rfl
  have m0 := (BM1.out).at 0 _ rfl
  have m1 := (BM1.out).at 1 _ rfl
  have m2 := (BM1.out).at 2 _ rfl
  have m3 := (BM1.out).at 3 _ rfl
  have m4 := (BM1.out).at 4 _ rfl
  go_wp2_with fail
  refine (k4.out _ U1.out).mono ?_
  rintro e w4 ⟨Pc, cpc, lpc, Qc, cqc, lqc, rfl, hpc, hqc, hwc, hvc, hcqc, hcmc, hb4⟩
  clear s0 s1 s2 s3 s4 s5 s6 s7 s8 s9 s10 s11 s12 s13
  try clear m0 m1 m2 m3 m4
  replace U1 := Lib.hid ((U1.out.later hb4).push (.cells #[.int .i64 rs.least, .int .i64 rs.most, .int .i64 rs.now, .bool rs.on, .int .i64 rs.zero, .int .i64 rs.first, .int .i64 rs.high, .int .i64 rs.done, .int .i64 rs.spread, .int .i64 rs.trans, .slice Qc rs.q.length cqc, .int .i64 rs.late, .int .i64 rs.twice, .int .i64 rs.played] 26))
  replace BS1 := Lib.hid ((BS1.out.later hb4).push (.cells #[.int .i64 rs.least, .int .i64 rs.most, .int .i64 rs.now, .bool rs.on, .int .i64 rs.zero, .int .i64 rs.first, .int .i64 rs.high, .int .i64 rs.done, .int .i64 rs.spread, .int .i64 rs.trans, .slice Qc rs.q.length cqc, .int .i64 rs.late, .int .i64 rs.twice, .int .i64 rs.played] 26))
  replace BM1 := Lib.hid ((BM1.out.later hb4).push (.cells #[.int .i64 rs.least, .int .i64 rs.most, .int .i64 rs.now, .bool rs.on, .int .i64 rs.zero, .int .i64 rs.first, .int .i64 rs.high, .int .i64 rs.done, .int .i64 rs.spread, .int .i64 rs.trans, .slice Qc rs.q.length cqc, .int .i64 rs.late, .int .i64 rs.twice, .int .i64 rs.played] 26))
  replace Ba := Lib.hid ((Ba.out.later hb4).push (.cells #[.int .i64 rs.least, .int .i64 rs.most, .int .i64 rs.now, .bool rs.on, .int .i64 rs.zero, .int .i64 rs.first, .int .i64 rs.high, .int .i64 rs.done, .int .i64 rs.spread, .int .i64 rs.trans, .slice Qc rs.q.length cqc, .int .i64 rs.late, .int .i64 rs.twice, .int .i64 rs.played] 26))
  replace HAa := Lib.hid ((HAa.out.later hb4).push (.cells #[.int .i64 rs.least, .int .i64 rs.most, .int .i64 rs.now, .bool rs.on, .int .i64 rs.zero, .int .i64 rs.first, .int .i64 rs.high, .int .i64 rs.done, .int .i64 rs.spread, .int .i64 rs.trans, .slice Qc rs.q.length cqc, .int .i64 rs.late, .int .i64 rs.twice, .int .i64 rs.played] 26))
  replace HQa := Lib.hid ((HQa.out.later hb4).push (.cells #[.int .i64 rs.least, .int .i64 rs.most, .int .i64 rs.now, .bool rs.on, .int .i64 rs.zero, .int .i64 rs.first, .int .i64 rs.high, .int .i64 rs.done, .int .i64 rs.spread, .int .i64 rs.trans, .slice Qc rs.q.length cqc, .int .i64 rs.late, .int .i64 rs.twice, .int .i64 rs.played] 26))
  replace Bb := Lib.hid ((Bb.out.later hb4).push (.cells #[.int .i64 rs.least, .int .i64 rs.most, .int .i64 rs.now, .bool rs.on, .int .i64 rs.zero, .int .i64 rs.first, .int .i64 rs.high, .int .i64 rs.done, .int .i64 rs.spread, .int .i64 rs.trans, .slice Qc rs.q.length cqc, .int .i64 rs.late, .int .i64 rs.twice, .int .i64 rs.played] 26))
  replace HAb := Lib.hid ((HAb.out.later hb4).push (.cells #[.int .i64 rs.least, .int .i64 rs.most, .int .i64 rs.now, .bool rs.on, .int .i64 rs.zero, .int .i64 rs.first, .int .i64 rs.high, .int .i64 rs.done, .int .i64 rs.spread, .int .i64 rs.trans, .slice Qc rs.q.length cqc, .int .i64 rs.late, .int .i64 rs.twice, .int .i64 rs.played] 26))
  replace HQb := Lib.hid ((HQb.out.later hb4).push (.cells #[.int .i64 rs.least, .int .i64 rs.most, .int .i64 rs.now, .bool rs.on, .int .i64 rs.zero, .int .i64 rs.first, .int .i64 rs.high, .int .i64 rs.done, .int .i64 rs.spread, .int .i64 rs.trans, .slice Qc rs.q.length cqc, .int .i64 rs.late, .int .i64 rs.twice, .int .i64 rs.played] 26))
  have Bc := Lib.hid (Blk.new w4 26 #[.int .i64 rs.least, .int .i64 rs.most, .int .i64 rs.now, .bool rs.on, .int .i64 rs.zero, .int .i64 rs.first, .int .i64 rs.high, .int .i64 rs.done, .int .i64 rs.spread, .int .i64 rs.trans, .slice Qc rs.q.length cqc, .int .i64 rs.late, .int .i64 rs.twice, .int .i64 rs.played])
  have HAc := Lib.hid (hwc.push (.cells #[.int .i64 rs.least, .int .i64 rs.most, .int .i64 rs.now, .bool rs.on, .int .i64 rs.zero, .int .i64 rs.first, .int .i64 rs.high, .int .i64 rs.done, .int .i64 rs.spread, .int .i64 rs.trans, .slice Qc rs.q.length cqc, .int .i64 rs.late, .int .i64 rs.twice, .int .i64 rs.played] 26))
  have HQc := Lib.hid (hvc.push (.cells #[.int .i64 rs.least, .int .i64 rs.most, .int .i64 rs.now, .bool rs.on, .int .i64 rs.zero, .int .i64 rs.first, .int .i64 rs.high, .int .i64 rs.done, .int .i64 rs.spread, .int .i64 rs.trans, .slice Qc rs.q.length cqc, .int .i64 rs.late, .int .i64 rs.twice, .int .i64 rs.played] 26))
  have HPEc := Lib.hid hpc
  have HQEc := Lib.hid hqc
  clear hb4 hpc hqc hwc hvc
  simp only [JV]
  have s0 := (BS1.out).at 0 _ rfl
  have s1 := (BS1.out).at 1 _ rfl
  have s2 := (BS1.out).at 2 _ rfl
  have s3 := (BS1.out).at 3 _ rfl
  have s4 := (BS1.out).at 4 _ rfl
  have s5 := (BS1.out).at 5 _ rfl
  have s6 := (BS1.out).at 6 _ rfl
  have s7 := (BS1.out).at 7 _ rfl
  have s8 := (BS1.out).at 8 _ rfl
  have s9 := (BS1.out).at 9 _ rfl
  have s10 := (BS1.out).at 10 _ rfl
  have s11 := (BS1.out).at 11 _ rfl
  have s12 := (BS1.out).at 12 _ rfl
  have s13 := (BS1.out).at 13 _ rfl
  go_wp2_with fail
  refine (k5.out _ U1.out).mono ?_
  rintro e w5 ⟨Pd, cpd, lpd, Qd, cqd, lqd, rfl, hpd, hqd, hwd, hvd, hcqd, hcmd, hb5⟩
  clear s0 s1 s2 s3 s4 s5 s6 s7 s8 s9 s10 s11 s12 s13 
  replace U1 := Lib.hid ((U1.out.later hb5).push (.cells #[.int .i64 rs.least, .int .i64 rs.most, .int .i64 rs.now, .bool rs.on, .int .i64 rs.zero, .int .i64 rs.first, .int .i64 rs.high, .int .i64 rs.done, .int .i64 rs.spread, .int .i64 rs.trans, .slice Qd rs.q.length cqd, .int .i64 rs.late, .int .i64 rs.twice, .int .i64 rs.played] 26))
  replace BS1 := Lib.hid ((BS1.out.later hb5).push (.cells #[.int .i64 rs.least, .int .i64 rs.most, .int .i64 rs.now, .bool rs.on, .int .i64 rs.zero, .int .i64 rs.first, .int .i64 rs.high, .int .i64 rs.done, .int .i64 rs.spread, .int .i64 rs.trans, .slice Qd rs.q.length cqd, .int .i64 rs.late, .int .i64 rs.twice, .int .i64 rs.played] 26))
  replace BM1 := Lib.hid ((BM1.out.later hb5).push (.cells #[.int .i64 rs.least, .int .i64 rs.most, .int .i64 rs.now, .bool rs.on, .int .i64 rs.zero, .int .i64 rs.first, .int .i64 rs.high, .int .i64 rs.done, .int .i64 rs.spread, .int .i64 rs.trans, .slice Qd rs.q.length cqd, .int .i64 rs.late, .int .i64 rs.twice, .int .i64 rs.played] 26))
  replace Ba := Lib.hid ((Ba.out.later hb5).push (.cells #[.int .i64 rs.least, .int .i64 rs.most, .int .i64 rs.now, .bool rs.on, .int .i64 rs.zero, .int .i64 rs.first, .int .i64 rs.high, .int .i64 rs.done, .int .i64 rs.spread, .int .i64 rs.trans, .slice Qd rs.q.length cqd, .int .i64 rs.late, .int .i64 rs.twice, .int .i64 rs.played] 26))
  replace HAa := Lib.hid ((HAa.out.later hb5).push (.cells #[.int .i64 rs.least, .int .i64 rs.most, .int .i64 rs.now, .bool rs.on, .int .i64 rs.zero, .int .i64 rs.first, .int .i64 rs.high, .int .i64 rs.done, .int .i64 rs.spread, .int .i64 rs.trans, .slice Qd rs.q.length cqd, .int .i64 rs.late, .int .i64 rs.twice, .int .i64 rs.played] 26))
  replace HQa := Lib.hid ((HQa.out.later hb5).push (.cells #[.int .i64 rs.least, .int .i64 rs.most, .int .i64 rs.now, .bool rs.on, .int .i64 rs.zero, .int .i64 rs.first, .int .i64 rs.high, .int .i64 rs.done, .int .i64 rs.spread, .int .i64 rs.trans, .slice Qd rs.q.length cqd, .int .i64 rs.late, .int .i64 rs.twice, .int .i64 rs.played] 26))
  replace Bb := Lib.hid ((Bb.out.later hb5).push (.cells #[.int .i64 rs.least, .int .i64 rs.most, .int .i64 rs.now, .bool rs.on, .int .i64 rs.zero, .int .i64 rs.first, .int .i64 rs.high, .int .i64 rs.done, .int .i64 rs.spread, .int .i64 rs.trans, .slice Qd rs.q.length cqd, .int .i64 rs.late, .int .i64 rs.twice, .int .i64 rs.played] 26))
  replace HAb := Lib.hid ((HAb.out.later hb5).push (.cells #[.int .i64 rs.least, .int .i64 rs.most, .int .i64 rs.now, .bool rs.on, .int .i64 rs.zero, .int .i64 rs.first, .int .i64 rs.high, .int .i64 rs.done, .int .i64 rs.spread, .int .i64 rs.trans, .slice Qd rs.q.length cqd, .int .i64 rs.late, .int .i64 rs.twice, .int .i64 rs.played] 26))
  replace HQb := Lib.hid ((HQb.out.later hb5).push (.cells #[.int .i64 rs.least, .int .i64 rs.most, .int .i64 rs.now, .bool rs.on, .int .i64 rs.zero, .int .i64 rs.first, .int .i64 rs.high, .int .i64 rs.done, .int .i64 rs.spread, .int .i64 rs.trans, .slice Qd rs.q.length cqd, .int .i64 rs.late, .int .i64 rs.twice, .int .i64 rs.played] 26))
  replace Bc := Lib.hid ((Bc.out.later hb5).push (.cells #[.int .i64 rs.least, .int .i64 rs.most, .int .i64 rs.now, .bool rs.on, .int .i64 rs.zero, .int .i64 rs.first, .int .i64 rs.high, .int .i64 rs.done, .int .i64 rs.spread, .int .i64 rs.trans, .slice Qd rs.q.length cqd, .int .i64 rs.late, .int .i64 rs.twice, .int .i64 rs.played] 26))
  replace HAc := Lib.hid ((HAc.out.later hb5).push (.cells #[.int .i64 rs.least, .int .i64 rs.most, .int .i64 rs.now, .bool rs.on, .int .i64 rs.zero, .int .i64 rs.first, .int .i64 rs.high, .int .i64 rs.done, .int .i64 rs.spread, .int .i64 rs.trans, .slice Qd rs.q.length cqd, .int .i64 rs.late, .int .i64 rs.twice, .int .i64 rs.played] 26))
  replace HQc := Lib.hid ((HQc.out.later hb5).push (.cells #[.int .i64 rs.least, .int .i64 rs.most, .int .i64 rs.now, .bool rs.on, .int .i64 rs.zero, .int .i64 rs.first, .int .i64 rs.high, .int .i64 rs.done, .int .i64 rs.spread, .int .i64 rs.trans, .slice Qd rs.q.length cqd, .int .i64 rs.late, .int .i64 rs.twice, .int .i64 rs.played] 26))
  have Bd := Lib.hid (Blk.new w5 26 #[.int .i64 rs.least, .int .i64 rs.most, .int .i64 rs.now, .bool rs.on, .int .i64 rs.zero, .int .i64 rs.first, .int .i64 rs.high, .int .i64 rs.done, .int .i64 rs.spread, .int .i64 rs.trans, .slice Qd rs.q.length cqd, .int .i64 rs.late, .int .i64 rs.twice, .int .i64 rs.played])
  have HAd := Lib.hid (hwd.push (.cells #[.int .i64 rs.least, .int .i64 rs.most, .int .i64 rs.now, .bool rs.on, .int .i64 rs.zero, .int .i64 rs.first, .int .i64 rs.high, .int .i64 rs.done, .int .i64 rs.spread, .int .i64 rs.trans, .slice Qd rs.q.length cqd, .int .i64 rs.late, .int .i64 rs.twice, .int .i64 rs.played] 26))
  have HQd := Lib.hid (hvd.push (.cells #[.int .i64 rs.least, .int .i64 rs.most, .int .i64 rs.now, .bool rs.on, .int .i64 rs.zero, .int .i64 rs.first, .int .i64 rs.high, .int .i64 rs.done, .int .i64 rs.spread, .int .i64 rs.trans, .slice Qd rs.q.length cqd, .int .i64 rs.late, .int .i64 rs.twice, .int .i64 rs.played] 26))
  have HPEd := Lib.hid hpd
  have HQEd := Lib.hid hqd
  clear hb5 hpd hqd hwd hvd
  simp only [JV]
  have a0 := (Ba.out).at 0 _ rfl
  have a1 := (Ba.out).at 1 _ rfl
  have a2 := (Ba.out).at 2 _ rfl
  have a3 := (Ba.out).at 3 _ rfl
  have a4 := (Ba.out).at 4 _ rfl
  have a5 := (Ba.out).at 5 _ rfl
  have a6 := (Ba.out).at 6 _ rfl
  have a7 := (Ba.out).at 7 _ rfl
  have a8 := (Ba.out).at 8 _ rfl
  have a9 := (Ba.out).at 9 _ rfl
  have a10 := (Ba.out).at 10 _ rfl
  have a11 := (Ba.out).at 11 _ rfl
  have a12 := (Ba.out).at 12 _ rfl
  have a13 := (Ba.out).at 13 _ rfl
  have b0 := (Bb.out).at 0 _ rfl
  have b1 := (Bb.out).at 1 _ rfl
  have b2 := (Bb.out).at 2 _ rfl
  have b3 := (Bb.out).at 3 _ rfl
  have b4 := (Bb.out).at 4 _ rfl
  have b5 := (Bb.out).at 5 _ rfl
  have b6 := (Bb.out).at 6 _ rfl
  have b7 := (Bb.out).at 7 _ rfl
  have b8 := (Bb.out).at 8 _ rfl
  have b9 := (Bb.out).at 9 _ rfl
  have b10 := (Bb.out).at 10 _ rfl
  have b11 := (Bb.out).at 11 _ rfl
  have b12 := (Bb.out).at 12 _ rfl
  have b13 := (Bb.out).at 13 _ rfl
  go_wp2_with fail
  refine (rsame_any ps Qa Qb lqa lqb ps.q.length cqa cqb _ (map_len HQEa.out) (HQEa.out.trans HQEb.out.symm) (by have := HPN.out.2; omega) HQa.out HQb.out).mono ?_
  rintro e v1 ⟨rfl, hb⟩
  replace U1 := Lib.hid (U1.out.later hb)
  replace BS1 := Lib.hid (BS1.out.later hb)
  replace BM1 := Lib.hid (BM1.out.later hb)
  replace Ba := Lib.hid (Ba.out.later hb)
  replace HAa := Lib.hid (HAa.out.later hb)
  replace HQa := Lib.hid (HQa.out.later hb)
  replace Bb := Lib.hid (Bb.out.later hb)
  replace HAb := Lib.hid (HAb.out.later hb)
  replace HQb := Lib.hid (HQb.out.later hb)
  replace Bc := Lib.hid (Bc.out.later hb)
  replace HAc := Lib.hid (HAc.out.later hb)
  replace HQc := Lib.hid (HQc.out.later hb)
  replace Bd := Lib.hid (Bd.out.later hb)
  replace HAd := Lib.hid (HAd.out.later hb)
  replace HQd := Lib.hid (HQd.out.later hb)
  clear hb a0 b0 a1 b1 a2 b2 a3 b3 a4 b4 a5 b5 a6 b6 a7 b7 a8 b8 a9 b9 a10 b10 a11 b11 a12 b12 a13 b13
  go_wp2_with fail
  refine (rsw_any Pa Pb lpa lpb pl1.length cpa cpb _ (map_len HPEa.out) (HPEa.out.trans HPEb.out.symm) (by have := HPN.out.1; omega) HAa.out HAb.out).mono ?_
  rintro e v2 ⟨rfl, hb⟩
  replace U1 := Lib.hid (U1.out.later hb)
  replace BS1 := Lib.hid (BS1.out.later hb)
  replace BM1 := Lib.hid (BM1.out.later hb)
  replace Ba := Lib.hid (Ba.out.later hb)
  replace HAa := Lib.hid (HAa.out.later hb)
  replace HQa := Lib.hid (HQa.out.later hb)
  replace Bb := Lib.hid (Bb.out.later hb)
  replace HAb := Lib.hid (HAb.out.later hb)
  replace HQb := Lib.hid (HQb.out.later hb)
  replace Bc := Lib.hid (Bc.out.later hb)
  replace HAc := Lib.hid (HAc.out.later hb)
  replace HQc := Lib.hid (HQc.out.later hb)
  replace Bd := Lib.hid (Bd.out.later hb)
  replace HAd := Lib.hid (HAd.out.later hb)
  replace HQd := Lib.hid (HQd.out.later hb)
  clear hb 
  have c0 := (Bc.out).at 0 _ rfl
  have c1 := (Bc.out).at 1 _ rfl
  have c2 := (Bc.out).at 2 _ rfl
  have c3 := (Bc.out).at 3 _ rfl
  have c4 := (Bc.out).at 4 _ rfl
  have c5 := (Bc.out).at 5 _ rfl
  have c6 := (Bc.out).at 6 _ rfl
  have c7 := (Bc.out).at 7 _ rfl
  have c8 := (Bc.out).at 8 _ rfl
  have c9 := (Bc.out).at 9 _ rfl
  have c10 := (Bc.out).at 10 _ rfl
  have c11 := (Bc.out).at 11 _ rfl
  have c12 := (Bc.out).at 12 _ rfl
  have c13 := (Bc.out).at 13 _ rfl
  have d0 := (Bd.out).at 0 _ rfl
  have d1 := (Bd.out).at 1 _ rfl
  have d2 := (Bd.out).at 2 _ rfl
  have d3 := (Bd.out).at 3 _ rfl
  have d4 := (Bd.out).at 4 _ rfl
  have d5 := (Bd.out).at 5 _ rfl
  have d6 := (Bd.out).at 6 _ rfl
  have d7 := (Bd.out).at 7 _ rfl
  have d8 := (Bd.out).at 8 _ rfl
  have d9 := (Bd.out).at 9 _ rfl
  have d10 := (Bd.out).at 10 _ rfl
  have d11 := (Bd.out).at 11 _ rfl
  have d12 := (Bd.out).at 12 _ rfl
  have d13 := (Bd.out).at 13 _ rfl
  go_wp2_with fail
  refine (rsame_any rs Qc Qd lqc lqd rs.q.length cqc cqd _ (map_len HQEc.out) (HQEc.out.trans HQEd.out.symm) (by have := HRN.out.2; omega) HQc.out HQd.out).mono ?_
  rintro e v3 ⟨rfl, hb⟩
  replace U1 := Lib.hid (U1.out.later hb)
  replace BS1 := Lib.hid (BS1.out.later hb)
  replace BM1 := Lib.hid (BM1.out.later hb)
  replace Ba := Lib.hid (Ba.out.later hb)
  replace HAa := Lib.hid (HAa.out.later hb)
  replace HQa := Lib.hid (HQa.out.later hb)
  replace Bb := Lib.hid (Bb.out.later hb)
  replace HAb := Lib.hid (HAb.out.later hb)
  replace HQb := Lib.hid (HQb.out.later hb)
  replace Bc := Lib.hid (Bc.out.later hb)
  replace HAc := Lib.hid (HAc.out.later hb)
  replace HQc := Lib.hid (HQc.out.later hb)
  replace Bd := Lib.hid (Bd.out.later hb)
  replace HAd := Lib.hid (HAd.out.later hb)
  replace HQd := Lib.hid (HQd.out.later hb)
  clear hb c0 d0 c1 d1 c2 d2 c3 d3 c4 d4 c5 d5 c6 d6 c7 d7 c8 d8 c9 d9 c10 d10 c11 d11 c12 d12 c13 d13
  go_wp2_with fail
  refine (rsw_any Pc Pd lpc lpd rl1.length cpc cpd _ (map_len HPEc.out) (HPEc.out.trans HPEd.out.symm) (by have := HRN.out.1; omega) HAc.out HAd.out).mono ?_
  rintro e v4 ⟨rfl, hb⟩
  replace U1 := Lib.hid (U1.out.later hb)
  replace BS1 := Lib.hid (BS1.out.later hb)
  replace BM1 := Lib.hid (BM1.out.later hb)
  replace Ba := Lib.hid (Ba.out.later hb)
  replace HAa := Lib.hid (HAa.out.later hb)
  replace HQa := Lib.hid (HQa.out.later hb)
  replace Bb := Lib.hid (Bb.out.later hb)
  replace HAb := Lib.hid (HAb.out.later hb)
  replace HQb := Lib.hid (HQb.out.later hb)
  replace Bc := Lib.hid (Bc.out.later hb)
  replace HAc := Lib.hid (HAc.out.later hb)
  replace HQc := Lib.hid (HQc.out.later hb)
  replace Bd := Lib.hid (Bd.out.later hb)
  replace HAd := Lib.hid (HAd.out.later hb)
  replace HQd := Lib.hid (HQd.out.later hb)
  clear hb 
  go_wp2_with fail
  refine (lives_any _).mono ?_
  rintro e v5 ⟨rfl, hb⟩
  replace U1 := Lib.hid (U1.out.later hb)
  clear hb
  go_wp2_with fail
  go_ret
  exact ⟨by first | rfl | simp, U1.out⟩
end Go.Proofs.Ytnaafjdnmbajjaa.jitterPuts

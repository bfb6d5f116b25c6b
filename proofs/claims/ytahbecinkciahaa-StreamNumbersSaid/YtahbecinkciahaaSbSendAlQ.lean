/- Layer 32: Send without a tone: speech, law 2. -/
import Derived.Test.YtahbecinkciahaaSbSendAQ
import Derived.Test.YtahbecinkciahaaSbLives
import Derived.Test.YtahbecinkciahaaJtPlainQ
import Derived.Test.YtahbecinkciahaaJtPutG1Q
namespace Go.Proofs.Ytahbecinkciahaa
open Go.RowKit
set_option linter.unusedVariables false
set_option linter.unusedSimpArgs false
attribute [local go_sem ↓] run_min_plain run_max_plain
attribute [local go_sem] setCell_drewN alloc_drewN
set_option maxRecDepth 100000 in
set_option maxHeartbeats 12800000 in
theorem Send_a (p : Sb.Pt) (hw : p.wf) (A : Option Addr) (l : List TW) (n c : Nat) (X : Array Value) (hX : X = PA p A n c) (w : World) (hq : l.map TW.w = p.jt.q) (hn : l.length = n) (hl : n ≤ 100000) (hcap : n ≤ c) (hcm : c ≤ maxLen) (hA : Wts w w.heap.size A l) (hK : ∀ a ∈ l, I64 a.w.m.sq) (ZA : Option Addr) (zs : List Int) (zc : Nat) (hZ : IntsAt w w.heap.size .i16 ZA zs) (hz : Within (-32768) 32767 zs) (hzl : zs.length = 160) (hv : p.valid = true) (hp : ∀ a ∈ l, a.w.m.pl.length ≤ 1000000) (hon : p.tn.on = false) (hen : p.tn.ends = 0) (hcd : p.codec = 8) (hqu : ¬Ev.quiet p.below zs = 10) : Calls Try.prog 10 #[.agg X, .slice ZA 160 zc] w (SendR (Sb.send0 p zs) w) := by
  subst hn
  obtain ⟨QN, hQN⟩ : ∃ q, q = Ev.quiet p.below zs := ⟨_, rfl⟩
  have hS : Sb.send0 p zs = ({ (Sb.emit { p with below := QN } p.codec p.time p.mrk (zs.map Cmp.aZ)).1 with mrk := false, cv := p.cv, ci := p.ci, time := (p.time + 160) % 4294967296 }, [(Sb.emit { p with below := QN } p.codec p.time p.mrk (zs.map Cmp.aZ)).2]) := by
    unfold Sb.send0 Sb.later Sb.enc
    rw [if_neg (by rw [hon, hen]; decide), if_neg hqu, if_neg (by rw [hcd]; decide)]
    rw [if_pos hcd]
    rw [← hQN]
    try rfl
  rw [hS]
  clear hS
  obtain ⟨q9, hq9⟩ : ∃ q, q = (Sb.emit { p with below := QN } p.codec p.time p.mrk (zs.map Cmp.aZ)).1 := ⟨_, rfl⟩
  obtain ⟨k9, hk9⟩ : ∃ k, k = (Sb.emit { p with below := QN } p.codec p.time p.mrk (zs.map Cmp.aZ)).2 := ⟨_, rfl⟩
  rw [← hq9, ← hk9]
  have HQ9 := Lib.hid hq9
  have HK9 := Lib.hid hk9
  have h9t : q9.time = p.time := by rw [hq9]; rfl
  have h9p : k9.pl = zs.map Cmp.aZ := by rw [hk9]; rfl
  have H9T := Lib.hid h9t
  have H9P := Lib.hid h9p
  clear hq9 hk9 h9t h9p
  have B0 := Lib.hid ((PB.new w X hX).push (.cells (PA Sb.Pt.zero none 0 0) 43))
  have B1 := Lib.hid (Blk.new1 w (.cells X 43) 43 (PA Sb.Pt.zero none 0 0))
  have U0 := Lib.hid (((Bel.refl w).push (.cells X 43)).push (.cells (PA Sb.Pt.zero none 0 0) 43))
  have HA := Lib.hid hA
  have HZ := Lib.hid hZ
  have k1 := Lib.hid fun (W : World) hW => pvalid_any p hw A l l.length c (PA p A l.length c) rfl W hq rfl hl hW hK true hv.symm
  have k2 := Lib.hid fun (W : World) hW => copyBuffer_any p.jt A l l.length c W rfl hl hW hp
  unfold CopyR at k2
  have k3 : ∀ W : World, IntsAt W W.heap.size .i16 ZA zs → Calls Try.prog 21 #[.agg #[.int .i64 p.below], .slice ZA 160 zc] W fun e w' => e = .returned (.tuple #[.agg #[.int .i64 (Ev.quiet p.below zs)], .bool (Ev.quiet p.below zs == 10)]) ∧ Below W.heap.size W w' := fun W hW => by
    have h := Silence_any p.below ZA zs zc W hw.below.1 hw.below.2 hW hz (by omega)
    rwa [hzl] at h
  have hw5 : ({ p with below := QN } : Sb.Pt).wf := ⟨hw.codec, hw.src, hw.seq, hw.time, by rw [hQN]; show -9223372036854775808 ≤ Ev.quiet p.below zs ∧ Ev.quiet p.below zs ≤ 9223372036854775807; unfold Ev.quiet; split <;> omega, hw.tvol, hw.tcode, hw.tst, hw.seed, hw.pk, hw.oc⟩
  have HW5 := Lib.hid hw5
  clear hw5
  rw [← hQN] at k3 hqu
  have hqb : (QN == 10) = false := by rw [beq_eq_false_iff_ne]; exact hqu
  rw [hqb] at k3
  clear hqb hqu hQN
  have k5 := Lib.hid fun (v i : Int) (b : Nat) (W : World) hW hB => enc_a v i ZA zs zc b W hW hz (by omega) hB
  unfold EncR at k5
  have hml : (zs.map Cmp.aZ).length = 160 := by rw [List.length_map, hzl]
  rw [hzl, hml] at k5
  have HML := Lib.hid hml
  clear hml
  have HCD := Lib.hid hcd
  clear hcd
  replace k3 := Lib.hid k3
  have HW := Lib.hid hw
  have HQ := Lib.hid hq
  have HON := Lib.hid hon
  have HEN := Lib.hid hen
  have ht0 := hw.time.1
  have ht1 := hw.time.2
  clear hX hA hZ hK hq hv hp hon hen hw
  go_enter Try.func10, Try.ntmps10
  go_upto_region 1 with fail
  change Code.wp _ _ _ _ ((w.alloc (Obj.cells X 43)).alloc (Obj.cells (PA Sb.Pt.zero none 0 0) 43))
  obtain ⟨W, hW⟩ : ∃ W, W = (w.alloc (Obj.cells X 43)).alloc (Obj.cells (PA Sb.Pt.zero none 0 0) 43) := ⟨_, rfl⟩
  rw [← hW] at B0 B1 U0 ⊢
  clear hW
  go_wp2_with (first | (refine wpList_load_part rfl 43 (.tmp 2) rfl (w.heap.size) 0 rfl 43 (PL p A l.length c) B0.out 48 _ Try.underlying43 info_port (show 0 + 48 ≤ 48 by decide) (PA p A l.length c) (by rfl) rfl ?_) | fail)
  refine (k1.out _ (HA.out.later U0.out)).mono ?_
  rintro e w1 ⟨rfl, hb1⟩
  replace U0 := Lib.hid (U0.out.later hb1)
  replace B0 := Lib.hid (B0.out.later hb1)
  replace B1 := Lib.hid (B1.out.later hb1)
  clear hb1 k1
  go_upto_region 3 with fail
  go_wp2_with (first | (refine wpList_load_part rfl 35 (.tmp 29) rfl (w.heap.size) 14 rfl 43 (PL p A l.length c) B0.out 14 _ Try.underlying35 info_jit (show 14 + 14 ≤ 48 by decide) (#[.int .i64 p.jt.least, .int .i64 p.jt.most, .int .i64 p.jt.now, .bool p.jt.on, .int .i64 p.jt.zero, .int .i64 p.jt.first, .int .i64 p.jt.high, .int .i64 p.jt.done, .int .i64 p.jt.spread, .int .i64 p.jt.trans, .slice A l.length c, .int .i64 p.jt.late, .int .i64 p.jt.twice, .int .i64 p.jt.played]) (by rfl) rfl ?_) | fail)
  have hL1 := B1.out.lt
  refine (k2.out _ (HA.out.later U0.out)).mono ?_
  rintro e w2 ⟨A2, c2, l2, rfl, hm2, hQ2, hb1⟩
  replace U0 := Lib.hid (U0.out.later hb1)
  replace B0 := Lib.hid (B0.out.later hb1)
  replace B1 := Lib.hid (B1.out.later hb1)
  clear hb1 k2
  go_upto_region 4 with (first | (refine wpList_store_part rfl 35 (.tmp 32) (.tmp 31) rfl (w.heap.size) 14 rfl 43 (PL p A l.length c) B0.out (JW p.jt A2 l.length c2) rfl info_jit (show 14 + 14 ≤ 48 by decide) rfl (PL p A2 l.length c2) rfl ?_; intro WF BF OF) | fail)
  have HQO := Lib.hid (hQ2.only OF (by omega))
  have HQL := Lib.hid (show l2.map TW.w = p.jt.q from hm2.trans HQ.out)
  replace B1 := Lib.hid (OF.blk B1.out (by omega))
  replace U0 := Lib.hid (OF.bel U0.out (Nat.le_refl _))
  have hl2 : l2.length = l.length := hQ2.len
  have HM : Hid (PM WF [w.heap.size + 1, w.heap.size] w.heap.size p A2 l.length c2 l2) := Lib.hid ⟨BF, HQL.out, hl2, HQO.out.capm.1, HQO.out.capm.2, QAv.of_own HQO.out (by intro x hx; simp at hx; omega)⟩
  clear hQ2 hm2 BF OF B0 HQO HQL HA
  have hW1 := U0.out.size
  have hW2 := B1.out.lt
  obtain ⟨gl, hgl⟩ : ∃ g, g = WF.heap.size := ⟨_, rfl⟩
  have BL := Lib.hid (Blk.new WF 51 #[.slice none 0 0])
  replace HM := Lib.hid ((HM.out.add (x := gl) (by omega)).push (.cells #[.slice none 0 0] 51))
  replace B1 := Lib.hid (B1.out.push (.cells #[.slice none 0 0] 51))
  replace U0 := Lib.hid (U0.out.push (.cells #[.slice none 0 0] 51))
  have hmf : ∀ (fn : Fn) (first cap : Array Value) (w : World), (Instr.makeFunc fn first cap).run Try.prog w = .ok (.func fn first cap) w := fun _ _ _ _ => rfl
  obtain ⟨W3, hW3⟩ : ∃ W, W = WF.alloc (Obj.cells #[.slice none 0 0] 51) := ⟨_, rfl⟩
  have hgg : w.heap.size + 1 < gl := by omega
  rw [← hgl, ← hW3] at BL
  go_upto_region 6 with fail
  rw [← hgl]
  rw [← hW3] at HM B1 U0 ⊢
  clear hW3 hgl hW1 hW2
  have x5 := HM.out.box.cell 5 _ rfl
  go_wp2_with (first | (refine wpList_load_part rfl 26 (.tmp 35) rfl (w.heap.size) 5 rfl 43 (PL p A2 l.length c2) HM.out.box 1 _ Try.underlying26 info_qui (show 5 + 1 ≤ 48 by decide) (#[.int .i64 p.below]) (by rfl) rfl ?_) | fail)
  refine (k3.out _ (HZ.out.later U0.out)).mono ?_
  rintro e w4 ⟨rfl, hb1⟩
  replace U0 := Lib.hid (U0.out.later hb1)
  replace B1 := Lib.hid (B1.out.later hb1)
  replace BL := Lib.hid (BL.out.later hb1)
  replace HM := Lib.hid (HM.out.later hb1)
  clear hb1 k3 x5
  have BQ := Lib.hid (Blk.new w4 26 #[.int .i64 QN])
  replace U0 := Lib.hid (U0.out.push (.cells #[.int .i64 QN] 26))
  replace B1 := Lib.hid (B1.out.push (.cells #[.int .i64 QN] 26))
  have hbl := BL.out.lt
  replace BL := Lib.hid (BL.out.push (.cells #[.int .i64 QN] 26))
  replace HM := Lib.hid (HM.out.push (.cells #[.int .i64 QN] 26))
  obtain ⟨gq, hgq⟩ : ∃ g, g = w4.heap.size := ⟨_, rfl⟩
  obtain ⟨W5, hW5⟩ : ∃ W, W = w4.alloc (Obj.cells #[.int .i64 QN] 26) := ⟨_, rfl⟩
  rw [← hgq, ← hW5] at BQ
  rw [← hgq] at hbl
  go_upto_region 14 with fail
  rw [← hgq]
  rw [← hW5] at HM B1 U0 BL ⊢
  clear hW5 hgq
  have x8 := HM.out.box.cell 8 _ rfl
  have x13 := HM.out.box.cell 13 _ rfl
  rw [HON.out] at x8
  rw [HEN.out] at x13
  -- WAY
  go_upto_region 8 with (first | (refine wpList_load_part rfl 26 (.tmp 9) rfl (gq) 0 rfl 26 ([.int .i64 QN]) BQ.out 1 _ Try.underlying26 info_qui (show 0 + 1 ≤ 1 by decide) (#[.int .i64 QN]) (by rfl) rfl ?_) | (refine wpList_store_part rfl 26 (.tmp 42) (.tmp 41) rfl (w.heap.size) 5 rfl 43 (PL p A2 l.length c2) HM.out.box ([.int .i64 QN]) rfl info_qui (show 5 + 1 ≤ 48 by decide) rfl (PL { p with below := QN } A2 l.length c2) rfl ?_; intro WG BG OG) | fail)
  clear x8 x13
  replace HM := Lib.hid (HM.out.over (by simp) OG ({ p with below := QN }) BG rfl)
  replace B1 := Lib.hid (OG.blk B1.out (by omega))
  replace BL := Lib.hid (OG.blk BL.out (by omega))
  replace U0 := Lib.hid (OG.bel U0.out (Nat.le_refl _))
  clear BG OG
  clear BQ
  have x0 := HM.out.box.cell 0 _ rfl
  replace x0 := x0.trans (congrArg (fun t => some (Value.int .u8 t)) HCD.out)
  have x6 := HM.out.box.cell 6 _ rfl
  have x7 := HM.out.box.cell 7 _ rfl
  have x0d : WG.cell? ⟨w.heap.size, 0, none⟩ = some (.int .u8 8) := x0
  have x6d : WG.cell? ⟨w.heap.size, 6, none⟩ = some (.int .i64 p.cv) := x6
  have x7d : WG.cell? ⟨w.heap.size, 7, none⟩ = some (.int .i64 p.ci) := x7
  clear x0 x6 x7
  simp only [Act.put]
  have hglt := BL.out.lt
  have hnlt := B1.out.lt
  have hqlt := U0.out.size
  refine sr8a_wp w.heap.size p.cv p.ci ZA zs zc WG x0d x6d x7d (HZ.out.later U0.out) hz hzl (fun _ _ _ _ _ h => h) ?_
  intro wx A8 c8 g8 u43 u44 u45 u46 u47 u48 u49 u50 u51 u52 u53 u54 u55 HI8 HD8 hg8 HB8
  have hwx := HB8.out.size
  have HN8 := Lib.hid HI8.out.2
  replace U0 := Lib.hid (U0.out.later HB8.out)
  replace B1 := Lib.hid (B1.out.later HB8.out)
  replace BL := Lib.hid (BL.out.later HB8.out)
  replace HM := Lib.hid (HM.out.later HB8.out)
  clear x0d x6d x7d HB8
  have HP9 : Hid (IntsAv wx [gl, w.heap.size + 1, w.heap.size] .u8 A8 (zs.map Cmp.aZ)) := Lib.hid (IntsAv.of_new HI8.out (by intro x hx; simp at hx; omega))
  replace hg8 := hg8.out
  have k6 := fun (V : World) hM hL => emit_any [gl, w.heap.size + 1, w.heap.size] w.heap.size gl { p with below := QN } HW5.out A2 l.length c2 l2 p.codec p.time p.mrk A8 (zs.map Cmp.aZ) c8 V hM (by simp) (by simp) (by omega) hL (by rw [HML.out]; omega)
  rw [HML.out] at k6
  replace k6 := Lib.hid k6
  have x0 := HM.out.box.cell 0 _ rfl
  have x3 := HM.out.box.cell 3 _ rfl
  have x4 := HM.out.box.cell 4 _ rfl
  go_upto_region 11 with fail
  go_wp2_with fail
  refine (k6.out _ HM.out BL.out).mono ?_
  rintro e w8 ⟨rfl, A9, c9, M9, L9, O9, C9⟩
  rw [← HQ9.out] at M9
  rw [← HK9.out] at O9
  replace HM := Lib.hid M9
  replace BL := Lib.hid L9
  have HO9 := Lib.hid O9
  replace HP9 := Lib.hid (HP9.out.chg C9 (by simp))
  replace B1 := Lib.hid (C9.blk B1.out (by simp; omega))
  replace U0 := Lib.hid (C9.bel U0.out (by simp; omega))
  replace HD8 := Lib.hid (C9.blk HD8.out (by simp; omega))
  clear M9 L9 O9 C9
  clear x0 x3 x4 HI8 k6
  have x4 := HM.out.box.cell 4 _ rfl
  have z4 := Blk.frozen HM.out.box 4
  go_upto_region 13 with fail
  obtain ⟨WH, hV⟩ : ∃ W, W = w8.setCell ⟨w.heap.size, 4, none⟩ (.bool false) := ⟨_, rfl⟩
  rw [← hV]
  have OV : OnlyB w.heap.size w8 WH := by rw [hV]; exact OnlyB.setCell _ _ _ _
  replace HM := Lib.hid (show PM WH [gl, w.heap.size + 1, w.heap.size] w.heap.size ({ q9 with mrk := false }) A2 l.length c2 l2 by rw [hV]; exact HM.out.set (by simp) 4 _ _ rfl rfl)
  replace B1 := Lib.hid (OV.blk B1.out (by omega))
  replace BL := Lib.hid (OV.blk BL.out (by omega))
  replace U0 := Lib.hid (OV.bel U0.out (Nat.le_refl _))
  replace HO9 := Lib.hid (OV.owns HO9.out (by omega))
  replace HP9 := Lib.hid (HP9.out.chg (Chg.of_only OV (S := [w.heap.size]) (by simp)) (by simp))
  replace HD8 := Lib.hid (OV.blk HD8.out (by omega))
  clear hV OV
  clear x4 z4
  go_upto_region 31 with (first | (refine wpList_load_part rfl 28 (.tmp 18) rfl (g8) 0 rfl 28 ([.int .i64 p.cv, .int .i64 p.ci]) HD8.out 2 _ Try.underlying28 info_dst (show 0 + 2 ≤ 2 by decide) (#[.int .i64 p.cv, .int .i64 p.ci]) (by rfl) rfl ?_) | (refine wpList_store_part rfl 28 (.tmp 71) (.tmp 70) rfl (w.heap.size) 6 rfl 43 (PL { q9 with mrk := false } A2 l.length c2) HM.out.box ([.int .i64 p.cv, .int .i64 p.ci]) rfl info_dst (show 6 + 2 ≤ 48 by decide) rfl (PL { q9 with mrk := false, cv := p.cv, ci := p.ci } A2 l.length c2) rfl ?_; intro WJ BJ OJ) | fail)
  replace HM := Lib.hid (HM.out.over (by simp) OJ ({ q9 with mrk := false, cv := p.cv, ci := p.ci }) BJ rfl)
  replace B1 := Lib.hid (OJ.blk B1.out (by omega))
  replace BL := Lib.hid (OJ.blk BL.out (by omega))
  replace U0 := Lib.hid (OJ.bel U0.out (Nat.le_refl _))
  replace HO9 := Lib.hid (OJ.owns HO9.out (by omega))
  replace HP9 := Lib.hid (HP9.out.chg (Chg.of_only OJ (S := [w.heap.size]) (by simp)) (by simp))
  clear BJ OJ
  clear HD8
  have x3 := HM.out.box.cell 3 _ rfl
  replace x3 := x3.trans (congrArg (fun t => some (Value.int .u32 t)) H9T.out)
  have z3 := Blk.frozen HM.out.box 3
  go_upto_region 32 with fail
  obtain ⟨WI, hV⟩ : ∃ W, W = WJ.setCell ⟨w.heap.size, 3, none⟩ (.int .u32 ((p.time + 160) % 4294967296)) := ⟨_, rfl⟩
  rw [← hV]
  have OV : OnlyB w.heap.size WJ WI := by rw [hV]; exact OnlyB.setCell _ _ _ _
  replace HM := Lib.hid (show PM WI [gl, w.heap.size + 1, w.heap.size] w.heap.size ({ q9 with mrk := false, cv := p.cv, ci := p.ci, time := (p.time + 160) % 4294967296 }) A2 l.length c2 l2 by rw [hV]; exact HM.out.set (by simp) 3 _ _ rfl rfl)
  replace B1 := Lib.hid (OV.blk B1.out (by omega))
  replace BL := Lib.hid (OV.blk BL.out (by omega))
  replace U0 := Lib.hid (OV.bel U0.out (Nat.le_refl _))
  replace HO9 := Lib.hid (OV.owns HO9.out (by omega))
  replace HP9 := Lib.hid (HP9.out.chg (Chg.of_only OV (S := [w.heap.size]) (by simp)) (by simp))
  clear hV OV
  clear x3 z3
  obtain ⟨q, hq⟩ : ∃ q : Sb.Pt, q = { q9 with mrk := false, cv := p.cv, ci := p.ci, time := (p.time + 160) % 4294967296 } := ⟨_, rfl⟩
  rw [← hq] at HM
  have HQQ := Lib.hid hq
  have HM2 := HM.out.drew
  have V1 : Blk WI.drew (w.heap.size + 1) 43 (PL Sb.Pt.zero none 0 0).toArray := Blk.dr B1.out
  have VU : Bel w WI.drew := Bel.drew U0.out
  have HQL : Hid (l2.map TW.w = q.jt.q) := Lib.hid HM.out.q
  clear hq
  refine wp_region_held_drew (S := fun w' => Blk w' w.heap.size 43 (PL q A2 l.length c2).toArray ∧ Blk w' gl 51 #[.slice A9 1 c9]) (by kernel_rfl) ⟨Blk.dr HM.out.box, Blk.dr BL.out⟩ (fun hHeld => ?_)
  refine tk1 (i := 0) (v := .agg (PA q A2 l.length c2)) rfl (yif_load_part rfl 43 (.tmp 2) rfl w.heap.size 0 rfl 43 (PL q A2 l.length c2) (fun w h => h.1) 48 _ Try.underlying43 info_port (Nat.le_refl 48) _ rfl rfl) hHeld ?_
  try simp only [List.getElem_toArray, List.getElem_cons_zero, List.getElem_cons_succ, Act.put, List.setIfInBounds_toArray, List.set_cons_zero, List.set_cons_succ]
  refine tk1 (i := 1) (v := .slice A9 1 c9) rfl (Or.inl ⟨by rfl, fun w h => by have c2 := h.2.at 0 _ rfl; clear h; go_simp; try with_reducible rfl⟩) hHeld ?_
  try simp only [List.getElem_toArray, List.getElem_cons_zero, List.getElem_cons_succ, Act.put, List.setIfInBounds_toArray, List.set_cons_zero, List.set_cons_succ]
  refine wpAnyH_ready (rs := [2]) (by kernel_rfl) (by simp) ?_
  refine AllReadyH.cons (o := _) rfl (fun K hK => ?_) AllReadyH.nil
  refine step_store_part rfl 43 (.tmp 4) (.tmp 137) rfl (w.heap.size + 1) 0 rfl 43 _ V1 (PL q A2 l.length c2) rfl info_port (Nat.le_refl 48) rfl (PL q A2 l.length c2) rfl ?_
  intro WH BH OH
  refine hK.out _ _ ⟨OH.blk hHeld.1 (by omega), OH.blk hHeld.2 (by omega)⟩ (fun hHeld2 => ?_)
  clear hK K
  try simp only [List.getElem_toArray, List.getElem_cons_zero, List.getElem_cons_succ, Act.put, List.setIfInBounds_toArray, List.set_cons_zero, List.set_cons_succ]
  refine tk1 (i := 3) (v := .slice A9 1 c9) rfl (Or.inl ⟨by rfl, fun w _ => by go_simp; try with_reducible rfl⟩) hHeld2 ?_
  try simp only [List.getElem_toArray, List.getElem_cons_zero, List.getElem_cons_succ, Act.put, List.setIfInBounds_toArray, List.set_cons_zero, List.set_cons_succ]
  refine tk1 (i := 4) (v := .int .u8 0) rfl (Or.inl ⟨by rfl, fun w _ => by go_simp; try with_reducible rfl⟩) hHeld2 ?_
  try simp only [List.getElem_toArray, List.getElem_cons_zero, List.getElem_cons_succ, Act.put, List.setIfInBounds_toArray, List.set_cons_zero, List.set_cons_succ]
  refine wpAnyH_done (by kernel_rfl) ?_ _
  go_wp2_with fail
  rw [← HQQ.out]
  refine bodyPost_ret (v := .tuple #[.agg (PA q A2 l.length c2), .slice A9 1 c9, .int .u8 0]) (res_ctt Try.results10 rfl (PB.load BH) rfl rfl) rfl ⟨A2, l.length, c2, l2, A9, c9, [⟨k9, A8, c8⟩], rfl, rfl, HQL.out, HM2.len, HM2.cap, HM2.cm, (HM2.chg (T := [w.heap.size + 1]) (Chg.of_only OH (by simp)) (by simp) (by simp)).qa.wts, Pks.one (OH.owns (w := WI.drew) HO9.out (by omega)) (IntsAv.chg (W := WI.drew) (S := [gl, w.heap.size + 1, w.heap.size]) ⟨HP9.out.1, HP9.out.2⟩ (Chg.of_only OH (S := [w.heap.size + 1]) (by simp)) (by simp)).1 H9P.out, OH.bel VU (by omega), PksN.one HO9.out (by omega) (fun b off e => by have := HN8.out (by rw [HML.out]; omega) b off e; omega)⟩
end Go.Proofs.Ytahbecinkciahaa
/- Layer 32: the law StreamNumbers. -/
namespace Go.Proofs.Ytahbecinkciahaa
open Go.RowKit
set_option linter.unusedVariables false
set_option linter.unusedSimpArgs false
attribute [local go_sem ↓] run_min_plain run_max_plain
attribute [local go_sem] setCell_drewN alloc_drewN
theorem wf_bd16 {z : Int} (h : (Lit.int .u16 z).wf = true) : 0 ≤ z ∧ z ≤ 65535 := by simp [Lit.wf, IntKind.min, IntKind.max, IntKind.signed, IntKind.bits] at h; omega
theorem wf_bd32 {z : Int} (h : (Lit.int .u32 z).wf = true) : 0 ≤ z ∧ z ≤ 4294967295 := by simp [Lit.wf, IntKind.min, IntKind.max, IntKind.signed, IntKind.bits] at h; omega
theorem num_q {src : Int} {p : Sb.Pt} {i row many : Nat} (h : Sb.NumI src p i row many) : p.jt.q = [] := by rw [h.jt]; exact Sb.jb40.2.1
theorem send_num {src : Int} {p : Sb.Pt} {i row many : Nat} (h : Sb.NumI src p i row many) (hs : 0 ≤ src ∧ src ≤ 4294967295) (A : Option Addr) (c : Nat) (hcm : c ≤ maxLen) (V : World) (ZA : Option Addr) (zs : List Int) (zc : Nat) (hZ : IntsAt V V.heap.size .i16 ZA zs) (hz : Within (-32768) 32767 zs) (hzl : zs.length = 160) : Calls Try.prog 10 #[.agg (PA p A 0 c), .slice ZA 160 zc] V (SendR (Sb.send0 p zs) V) := by
  have hon : p.tn.on = false := by rw [h.tn]; rfl
  have hen : p.tn.ends = 0 := by rw [h.tn]; rfl
  by_cases hq : Ev.quiet p.below zs = 10
  · by_cases hb : p.below < 10
    · exact Send_A p (h.wf hs) A [] 0 c (PA p A 0 c) rfl V (num_q h).symm rfl (by omega) (by omega) hcm ⟨fun h0 => absurd h0 (by simp), fun _ h => by cases h⟩ (fun _ h => by cases h) ZA zs zc hZ hz hzl h.valid (fun _ h => by cases h) hon hen hq hb
    · exact Send_B p (h.wf hs) A [] 0 c (PA p A 0 c) rfl V (num_q h).symm rfl (by omega) (by omega) hcm ⟨fun h0 => absurd h0 (by simp), fun _ h => by cases h⟩ (fun _ h => by cases h) ZA zs zc hZ hz hzl h.valid (fun _ h => by cases h) hon hen hq hb
  · exact Send_a p (h.wf hs) A [] 0 c (PA p A 0 c) rfl V (num_q h).symm rfl (by omega) (by omega) hcm ⟨fun h0 => absurd h0 (by simp), fun _ h => by cases h⟩ (fun _ h => by cases h) ZA zs zc hZ hz hzl h.valid (fun _ h => by cases h) hon hen h.codec hq
set_option maxRecDepth 100000 in
set_option maxHeartbeats 12800000 in
theorem num_walk (w : World) (src : Int) (w0 : (Lit.int .u32 src).wf = true) (A : Option Addr) (ld : List Int) (cap : Nat) (hl1 : ld.length ≤ cap) (hm1 : cap ≤ maxLen) (hA : IntsAt w w.heap.size .u16 A ld) (w1 : ∀ z ∈ ld, (Lit.int .u16 z).wf = true) : Calls Try.prog 3 #[.int .u32 src, .slice A ld.length cap] w fun e w' => e = .returned (.bool true) ∧ Below w.heap.size w w' := by
  obtain ⟨s0, s1⟩ := wf_bd32 w0
  have HL := Lib.hid fun z hz => wf_bd16 (w1 z hz)
  have HA := Lib.hid hA
  have kN := Lib.hid fun W => New_any 8 src 40 200 (by omega) (by omega) W
  unfold NewP at kN
  obtain ⟨hn1, hn2⟩ := Sb.NumI.start ⟨s0, s1⟩
  rw [hn2] at kN
  obtain ⟨p0, hp0⟩ : ∃ p, p = (Sb.new 8 src 40 200).1 := ⟨_, rfl⟩
  rw [← hp0] at kN hn1
  have HN0 := Lib.hid hn1
  have HS := Lib.hid (show (0 : Int) ≤ src ∧ src ≤ 4294967295 from ⟨s0, s1⟩)
  clear hn1 hn2 hp0 hA w1 w0
  have hlc : ld.length ≤ maxLen := Nat.le_trans hl1 hm1
  go_enter Try.func3, Try.ntmps3
  go_wp2_with fail
  refine (buffer_any _).mono ?_
  rintro e w1 ⟨rfl, hb1⟩
  go_wp2_with fail
  refine (kN.out _).mono ?_
  rintro e w2 ⟨rfl, hb2⟩
  have U2 := Lib.hid (Bel.later (Bel.later (Bel.refl w) hb1) hb2)
  clear hb1 hb2
  have BZ : Blk (w2.alloc (Obj.cells #[.int .u8 0, .int .u32 0, .int .u16 0, .int .u32 0, .bool false, .int .i64 0, .int .i64 0, .int .i64 0, .bool false, .int .u8 0, .int .u8 0, .int .u32 0, .int .i64 0, .int .i64 0, .int .i64 0, .int .i64 0, .int .i64 0, .bool false, .int .i64 0, .int .i64 0, .int .i64 0, .int .i64 0, .int .i64 0, .int .i64 0, .slice none 0 0, .int .i64 0, .int .i64 0, .int .i64 0, .bool false, .int .i64 0, .int .i64 0, .int .i64 0, .bool false, .int .i64 0, .int .i64 0, .int .i64 0, .int .i64 0, .int .i64 0, .int .i64 0, .int .i64 0, .bool false, .int .u32 0, .int .u8 0, .int .i64 0, .bool false, .int .u32 0, .int .u32 0, .int .u32 0] 43)) w2.heap.size 43 (PL Sb.Pt.zero none 0 0).toArray := Blk.new _ _ _
  have hs2 := U2.out.size
  go_upto_region 2 with (first | (refine wpList_store_part rfl 43 (.tmp 5) (.tmp 19) rfl (w2.heap.size) 0 rfl 43 (PL Sb.Pt.zero none 0 0) BZ (PL p0 none 0 0) rfl info_port (show 0 + 48 ≤ 48 by decide) rfl (PL p0 none 0 0) rfl ?_; intro WA BA OA) | fail)
  have UA := Lib.hid (OA.bel (U2.out.push (Obj.cells #[.int .u8 0, .int .u32 0, .int .u16 0, .int .u32 0, .bool false, .int .i64 0, .int .i64 0, .int .i64 0, .bool false, .int .u8 0, .int .u8 0, .int .u32 0, .int .i64 0, .int .i64 0, .int .i64 0, .int .i64 0, .int .i64 0, .bool false, .int .i64 0, .int .i64 0, .int .i64 0, .int .i64 0, .int .i64 0, .int .i64 0, .slice none 0 0, .int .i64 0, .int .i64 0, .int .i64 0, .bool false, .int .i64 0, .int .i64 0, .int .i64 0, .bool false, .int .i64 0, .int .i64 0, .int .i64 0, .int .i64 0, .int .i64 0, .int .i64 0, .int .i64 0, .bool false, .int .u32 0, .int .u8 0, .int .i64 0, .bool false, .int .u32 0, .int .u32 0, .int .u32 0] 43)) hs2)
  have HBA := Lib.hid (show PB WA w2.heap.size p0 none 0 0 from BA)
  obtain ⟨g1, hg1⟩ : ∃ g, g = w2.heap.size := ⟨_, rfl⟩
  have hwg : w.heap.size ≤ g1 := by omega
  rw [← hg1] at HBA ⊢
  clear BZ BA OA hg1 U2 hs2
  go_wp2_with fail
  go_loopg [7, 8, 9] 60 (fun gk s7 s8 s9 wr => ∃ (k row many : Nat) (p : Sb.Pt) (A' : Option Addr) (c' : Nat), gk + k = 60 ∧ s7 = .int .i64 row ∧ s8 = .int .i64 many ∧ s9 = .int .i64 k ∧ k ≤ ld.length ∧ row ≤ k ∧ Hid (Sb.NumI src p k row many) ∧ Hid (PB wr g1 p A' 0 c') ∧ c' ≤ maxLen ∧ Hid (Bel w wr))
  case atStart => exact ⟨0, 0, 0, p0, none, 0, rfl, rfl, rfl, rfl, Nat.zero_le _, Nat.le_refl _, HN0, HBA, Nat.zero_le _, UA⟩
  case round =>
    obtain ⟨k, row, many, p, A', c', hgk, rfl, rfl, rfl, hkl, hrk, HN, HB, hcm, U⟩ := hrel
    have hi0 : (0 : Int) ≤ (k : Int) := by omega
    have hmk := HN.out.le
    by_cases hk : k < ld.length ∧ k < 60
    rotate_left
    · have x46 := HB.out.cell 46 _ rfl
      rw [HN.out.pk] at x46
      have hcv : IntKind.i64.wrap (many : Int) = (many : Int) := by simp only [IntKind.wrap, IntKind.bits, IntKind.signed]; simp; omega
      have hcond : (decide ((k : Int) < (ld.length : Int)) && decide ((k : Int) < 60)) = false := by
        simp only [Bool.and_eq_false_iff, decide_eq_false_iff_not]; omega
      have hk3 : ¬(k : Int) < (ld.length : Int) ∨ ((k : Int) < (ld.length : Int) ∧ ¬(k : Int) < 60) := by omega
      rcases hk3 with hk3 | ⟨hk3, hk4⟩
      all_goals
        clear hcond
        go_wp2_with fail
        refine (lives_any _).mono ?_
        rintro e wv ⟨rfl, hbv⟩
        have UF := U.out.later hbv
        go_wp2_with fail
        go_ret
        exact ⟨rfl, UF⟩
    obtain ⟨hk1, hk2⟩ := hk
    have hi1 : (k : Int) < (ld.length : Int) := by omega
    have hi2 : (k : Int) < 60 := by omega
    obtain ⟨bL, oL, rfl, hLb, hcell⟩ := HA.out (by omega)
    have hlz := HL.out (ld.getD k 0) (by rw [List.getD_eq_getElem?_getD, List.getElem?_eq_getElem hk1]; exact List.getElem_mem hk1)
    have xl : wr.cell? ⟨bL, oL + k, none⟩ = some (.int .u16 (ld.getD k 0)) := (U.out.cell (p := ⟨bL, oL + k, none⟩) hLb).trans (hcell k hk1)
    generalize ld.getD k 0 = lz at xl hlz
    obtain ⟨lz0, lz1⟩ := hlz
    clear hcell
    go_wp2_with fail
    refine (wave_any lz (k : Int) lz0 lz1 (by omega) (by omega) _).mono ?_
    rintro e w3 ⟨zs, ZA, zc, hzl, hzw, rfl, hIz, hb3⟩
    replace U := Lib.hid (U.out.later hb3)
    replace HB := Lib.hid (PB.later HB.out hb3)
    have HIZ := Lib.hid hIz.1
    have HZW := Lib.hid hzw
    have HZL := Lib.hid hzl
    have k2 : ∀ W : World, IntsAt W W.heap.size .i16 ZA zs → Calls Try.prog 9 #[.slice ZA 160 zc] W fun e w' => e = .returned (.int .u8 (Ev.lev zs)) ∧ Below W.heap.size W w' := fun W hW => by
      have h := rLevel_any ZA zs zc W hW hzw (by omega)
      rwa [hzl] at h
    replace k2 := Lib.hid k2
    have hlev := Ev.lev_bd zs hzw
    have HST := Lib.hid (HN.out.step zs hk2 hzl)
    have k3 := Lib.hid fun V hV => send_num HN.out HS.out A' c' hcm V ZA zs zc hV hzw hzl
    clear xl lz0 lz1 hIz hzw hzl hb3
    obtain ⟨lv, hlv⟩ : ∃ l, l = Ev.lev zs := ⟨_, rfl⟩
    rw [← hlv] at k2 hlev
    have HLV := Lib.hid hlv
    clear hlv
    go_upto_region 10 with fail
    go_wp2_with fail
    refine (k2.out _ HIZ.out).mono ?_
    rintro e w4 ⟨rfl, hb4⟩
    replace U := Lib.hid (U.out.later hb4)
    replace HB := Lib.hid (PB.later HB.out hb4)
    replace HIZ := Lib.hid (HIZ.out.later hb4)
    clear hb4 k2
    obtain ⟨R, hR⟩ : ∃ R : Nat, R = Sb.rowN row zs := ⟨_, rfl⟩
    have HR : Hid (R = if lv < 60 then 0 else row + 1) := Lib.hid (by rw [hR, HLV.out]; rfl)
    rw [← hR] at HST
    clear hR
    by_cases hq60 : lv < 60
    · obtain rfl : R = 0 := by rw [HR.out, if_pos hq60]
      go_upto_region 12 with fail
      go_wp2_with (first | (refine wpList_load_part rfl 43 (.tmp 5) rfl (g1) 0 rfl 43 (PL p A' 0 c') HB.out 48 _ Try.underlying43 info_port (show 0 + 48 ≤ 48 by decide) (PA p A' 0 c') (by rfl) rfl ?_) | fail)
      refine (k3.out _ HIZ.out).mono ?_
      rintro e w5 ⟨A2, n2, c2, l2, KA, kc, ks, rfl, hk9, hq9, hn9, hc9, hm9, hW9, hP9, hb5, hN9⟩
      obtain ⟨more, m1, m2, m3, m4, m5⟩ := HST.out
      generalize Sb.send0 p zs = SS at *
      obtain ⟨q, pks⟩ := SS
      obtain rfl : l2 = [] := List.map_eq_nil_iff.1 (hq9.trans (num_q m4))
      obtain rfl : 0 = n2 := hn9
      have hkl9 : ks.length = more := by have h1 := congrArg List.length hk9; simp only [List.length_map] at h1; exact h1.trans m1
      replace U := Lib.hid (U.out.later hb5)
      replace HB := Lib.hid (PB.later HB.out hb5)
      have HP9 := Lib.hid hP9
      have HN9 := Lib.hid hN9
      have HM4 := Lib.hid m4
      have HM5 := Lib.hid m5
      have HK9 := Lib.hid hk9
      clear hq9 hW9 hP9 hN9 hb5 k3 HIZ HST HN m1 m4 m5 hk9
      have hg1l := Blk.lt HB.out
      have BZ : Blk (w5.alloc (Obj.cells #[.int .u8 0, .int .u32 0, .int .u16 0, .int .u32 0, .bool false, .int .i64 0, .int .i64 0, .int .i64 0, .bool false, .int .u8 0, .int .u8 0, .int .u32 0, .int .i64 0, .int .i64 0, .int .i64 0, .int .i64 0, .int .i64 0, .bool false, .int .i64 0, .int .i64 0, .int .i64 0, .int .i64 0, .int .i64 0, .int .i64 0, .slice none 0 0, .int .i64 0, .int .i64 0, .int .i64 0, .bool false, .int .i64 0, .int .i64 0, .int .i64 0, .bool false, .int .i64 0, .int .i64 0, .int .i64 0, .int .i64 0, .int .i64 0, .int .i64 0, .int .i64 0, .bool false, .int .u32 0, .int .u8 0, .int .i64 0, .bool false, .int .u32 0, .int .u32 0, .int .u32 0] 43)) w5.heap.size 43 (PL Sb.Pt.zero none 0 0).toArray := Blk.new _ _ _
      replace U := Lib.hid (U.out.push (Obj.cells #[.int .u8 0, .int .u32 0, .int .u16 0, .int .u32 0, .bool false, .int .i64 0, .int .i64 0, .int .i64 0, .bool false, .int .u8 0, .int .u8 0, .int .u32 0, .int .i64 0, .int .i64 0, .int .i64 0, .int .i64 0, .int .i64 0, .bool false, .int .i64 0, .int .i64 0, .int .i64 0, .int .i64 0, .int .i64 0, .int .i64 0, .slice none 0 0, .int .i64 0, .int .i64 0, .int .i64 0, .bool false, .int .i64 0, .int .i64 0, .int .i64 0, .bool false, .int .i64 0, .int .i64 0, .int .i64 0, .int .i64 0, .int .i64 0, .int .i64 0, .int .i64 0, .bool false, .int .u32 0, .int .u8 0, .int .i64 0, .bool false, .int .u32 0, .int .u32 0, .int .u32 0] 43))
      replace HB := Lib.hid (PB.push HB.out (Obj.cells #[.int .u8 0, .int .u32 0, .int .u16 0, .int .u32 0, .bool false, .int .i64 0, .int .i64 0, .int .i64 0, .bool false, .int .u8 0, .int .u8 0, .int .u32 0, .int .i64 0, .int .i64 0, .int .i64 0, .int .i64 0, .int .i64 0, .bool false, .int .i64 0, .int .i64 0, .int .i64 0, .int .i64 0, .int .i64 0, .int .i64 0, .slice none 0 0, .int .i64 0, .int .i64 0, .int .i64 0, .bool false, .int .i64 0, .int .i64 0, .int .i64 0, .bool false, .int .i64 0, .int .i64 0, .int .i64 0, .int .i64 0, .int .i64 0, .int .i64 0, .int .i64 0, .bool false, .int .u32 0, .int .u8 0, .int .i64 0, .bool false, .int .u32 0, .int .u32 0, .int .u32 0] 43))
      have HPK : Hid (Pks (w5.alloc (Obj.cells #[.int .u8 0, .int .u32 0, .int .u16 0, .int .u32 0, .bool false, .int .i64 0, .int .i64 0, .int .i64 0, .bool false, .int .u8 0, .int .u8 0, .int .u32 0, .int .i64 0, .int .i64 0, .int .i64 0, .int .i64 0, .int .i64 0, .bool false, .int .i64 0, .int .i64 0, .int .i64 0, .int .i64 0, .int .i64 0, .int .i64 0, .slice none 0 0, .int .i64 0, .int .i64 0, .int .i64 0, .bool false, .int .i64 0, .int .i64 0, .int .i64 0, .bool false, .int .i64 0, .int .i64 0, .int .i64 0, .int .i64 0, .int .i64 0, .int .i64 0, .int .i64 0, .bool false, .int .u32 0, .int .u8 0, .int .i64 0, .bool false, .int .u32 0, .int .u32 0, .int .u32 0] 43)) w5.heap.size KA ks) := Lib.hid (HP9.out.keep (fun p hp => World.cell?_alloc_lt _ (Obj.cells #[.int .u8 0, .int .u32 0, .int .u16 0, .int .u32 0, .bool false, .int .i64 0, .int .i64 0, .int .i64 0, .bool false, .int .u8 0, .int .u8 0, .int .u32 0, .int .i64 0, .int .i64 0, .int .i64 0, .int .i64 0, .int .i64 0, .bool false, .int .i64 0, .int .i64 0, .int .i64 0, .int .i64 0, .int .i64 0, .int .i64 0, .slice none 0 0, .int .i64 0, .int .i64 0, .int .i64 0, .bool false, .int .i64 0, .int .i64 0, .int .i64 0, .bool false, .int .i64 0, .int .i64 0, .int .i64 0, .int .i64 0, .int .i64 0, .int .i64 0, .int .i64 0, .bool false, .int .u32 0, .int .u8 0, .int .i64 0, .bool false, .int .u32 0, .int .u32 0, .int .u32 0] 43) p hp))
      have hus := U.out.size
      have hw5 : w.heap.size ≤ w5.heap.size := by have h1 := U.out.size; simp at h1; omega
      go_upto_region 13 with (first | (refine wpList_store_part rfl 43 (.tmp 11) (.tmp 48) rfl (w5.heap.size) 0 rfl 43 (PL Sb.Pt.zero none 0 0) BZ (PL q A2 0 c2) rfl info_port (show 0 + 48 ≤ 48 by decide) rfl (PL q A2 0 c2) rfl ?_; intro WC BC OC) | fail)
      replace HPK := Lib.hid ((HPK.out.onlyN HN9.out OC (Or.inr (Nat.le_refl _))).more (m := WC.heap.size) (by rw [OC.2]; simp))
      replace U := Lib.hid (OC.bel U.out hw5)
      replace HB := Lib.hid (OC.blk HB.out (by omega))
      have HQ := Lib.hid (show PB WC w5.heap.size q A2 0 c2 from BC)
      have hq5 := BC.lt
      obtain ⟨g5, hg5⟩ : ∃ g, g = w5.heap.size := ⟨_, rfl⟩
      have hg15 : g1 < g5 := by omega
      rw [← hg5] at HQ hq5 ⊢
      clear BZ BC OC HP9 HN9 hg5 hus hw5
      rcases (show more = 0 ∨ more = 1 by omega) with rfl | rfl
      · obtain rfl : ks = [] := List.eq_nil_of_length_eq_zero hkl9
        have h10 := m3.1 rfl
        exact absurd h10 (by omega)
      · obtain ⟨a, rfl⟩ : ∃ a, ks = [a] := List.length_eq_one_iff.1 hkl9
        have h10 : ¬10 < 0 := fun h => by have := m3.2 h; omega
        obtain ⟨bK, oK, rfl, hlK, hcK⟩ := HPK.out.1 (by simp)
        have hm := HM5.out a.k (by rw [← HK9.out]; simp)
        obtain ⟨⟨mk, ty, sq, ti, so, pl⟩, B9, bc9⟩ := a
        obtain ⟨f1, f2, f3, f4⟩ := hm
        simp only at f1 f2 f3 f4
        subst f1 f2 f3
        have cK := fun j v hv => hcK 0 _ rfl j v hv
        simp only [Nat.zero_mul, Nat.add_zero] at cK
        have c0 : WC.cell? ⟨bK, oK, none⟩ = some (.bool mk) := cK 0 _ rfl
        have c1 := cK 1 _ rfl
        have c2' := cK 2 _ rfl
        have c3 := cK 3 _ rfl
        have c4 := cK 4 _ rfl
        have c5 := cK 5 _ rfl
        have c6 := cK 6 _ rfl
        have c7 := cK 7 _ rfl
        have c8 := cK 8 _ rfl
        have c9 := cK 9 _ rfl
        have c10 := cK 10 _ rfl
        clear cK hcK
        have BP := Lib.hid (Blk.new WC 57 #[.bool mk, .int .u8 ty, .int .u16 many, .int .u32 (160 * (k : Int)), .int .u32 so, .slice none 0 0, .bool false, .int .u16 0, .slice none 0 0, .slice B9 pl.length bc9, .int .i64 0])
        go_upto_region 17 with fail
        clear c0 c1 c2' c3 c4 c5 c6 c7 c8 c9 c10
        replace U := Lib.hid (U.out.push (.cells #[.bool mk, .int .u8 ty, .int .u16 many, .int .u32 (160 * (k : Int)), .int .u32 so, .slice none 0 0, .bool false, .int .u16 0, .slice none 0 0, .slice B9 pl.length bc9, .int .i64 0] 57))
        replace HB := Lib.hid (PB.push HB.out (.cells #[.bool mk, .int .u8 ty, .int .u16 many, .int .u32 (160 * (k : Int)), .int .u32 so, .slice none 0 0, .bool false, .int .u16 0, .slice none 0 0, .slice B9 pl.length bc9, .int .i64 0] 57))
        replace HQ := Lib.hid (PB.push HQ.out (.cells #[.bool mk, .int .u8 ty, .int .u16 many, .int .u32 (160 * (k : Int)), .int .u32 so, .slice none 0 0, .bool false, .int .u16 0, .slice none 0 0, .slice B9 pl.length bc9, .int .i64 0] 57))
        have hcv : IntKind.i64.wrap (many : Int) = (many : Int) := by simp only [IntKind.wrap, IntKind.bits, IntKind.signed]; simp; omega
        have hcw : wrap64 (160 * (k : Int)) = 160 * (k : Int) := IntWalk.wrap64_in _ ⟨by omega, by omega⟩
        have hcu : IntKind.u32.wrap (160 * (k : Int)) = 160 * (k : Int) := by simp only [IntKind.wrap, IntKind.bits, IntKind.signed]; simp; omega
        have p1 := BP.out.at 1 _ rfl
        have p2 := BP.out.at 2 _ rfl
        have p3 := BP.out.at 3 _ rfl
        have p4 := BP.out.at 4 _ rfl
        clear BP
        have h13 : ¬ty = 13 := fun h => by have := f4.1 h; omega
        clear f4
        go_upto_region 20 with fail
        clear p1 p2 p3 p4
        go_upto_region 7 with (first | (refine wpList_load_part rfl 43 (.tmp 11) rfl (g5) 0 rfl 43 (PL q A2 0 c2) HQ.out 48 _ Try.underlying43 info_port (show 0 + 48 ≤ 48 by decide) (PA q A2 0 c2) (by rfl) rfl ?_) | (refine wpList_store_part rfl 43 (.tmp 5) (.tmp 101) rfl (g1) 0 rfl 43 (PL p A' 0 c') HB.out (PL q A2 0 c2) rfl info_port (show 0 + 48 ≤ 48 by decide) rfl (PL q A2 0 c2) rfl ?_; intro WD BD OD) | fail)
        replace U := Lib.hid (OD.bel U.out hwg)
        replace HB := Lib.hid (show PB WD g1 q A2 0 c2 from BD)
        clear BD OD HQ HPK
        go_wp2_with fail
        go_roundg (gk - 1)
        case measure => omega
        case rel => exact ⟨k + 1, 0, many + 1, q, A2, c2, by omega, by go_num, by go_num, by go_num, by omega, by omega, HM4, HB, hm9, U⟩
    · obtain rfl : R = row + 1 := by rw [HR.out, if_neg hq60]
      go_upto_region 12 with fail
      go_wp2_with (first | (refine wpList_load_part rfl 43 (.tmp 5) rfl (g1) 0 rfl 43 (PL p A' 0 c') HB.out 48 _ Try.underlying43 info_port (show 0 + 48 ≤ 48 by decide) (PA p A' 0 c') (by rfl) rfl ?_) | fail)
      refine (k3.out _ HIZ.out).mono ?_
      rintro e w5 ⟨A2, n2, c2, l2, KA, kc, ks, rfl, hk9, hq9, hn9, hc9, hm9, hW9, hP9, hb5, hN9⟩
      obtain ⟨more, m1, m2, m3, m4, m5⟩ := HST.out
      generalize Sb.send0 p zs = SS at *
      obtain ⟨q, pks⟩ := SS
      obtain rfl : l2 = [] := List.map_eq_nil_iff.1 (hq9.trans (num_q m4))
      obtain rfl : 0 = n2 := hn9
      have hkl9 : ks.length = more := by have h1 := congrArg List.length hk9; simp only [List.length_map] at h1; exact h1.trans m1
      replace U := Lib.hid (U.out.later hb5)
      replace HB := Lib.hid (PB.later HB.out hb5)
      have HP9 := Lib.hid hP9
      have HN9 := Lib.hid hN9
      have HM4 := Lib.hid m4
      have HM5 := Lib.hid m5
      have HK9 := Lib.hid hk9
      clear hq9 hW9 hP9 hN9 hb5 k3 HIZ HST HN m1 m4 m5 hk9
      have hg1l := Blk.lt HB.out
      have BZ : Blk (w5.alloc (Obj.cells #[.int .u8 0, .int .u32 0, .int .u16 0, .int .u32 0, .bool false, .int .i64 0, .int .i64 0, .int .i64 0, .bool false, .int .u8 0, .int .u8 0, .int .u32 0, .int .i64 0, .int .i64 0, .int .i64 0, .int .i64 0, .int .i64 0, .bool false, .int .i64 0, .int .i64 0, .int .i64 0, .int .i64 0, .int .i64 0, .int .i64 0, .slice none 0 0, .int .i64 0, .int .i64 0, .int .i64 0, .bool false, .int .i64 0, .int .i64 0, .int .i64 0, .bool false, .int .i64 0, .int .i64 0, .int .i64 0, .int .i64 0, .int .i64 0, .int .i64 0, .int .i64 0, .bool false, .int .u32 0, .int .u8 0, .int .i64 0, .bool false, .int .u32 0, .int .u32 0, .int .u32 0] 43)) w5.heap.size 43 (PL Sb.Pt.zero none 0 0).toArray := Blk.new _ _ _
      replace U := Lib.hid (U.out.push (Obj.cells #[.int .u8 0, .int .u32 0, .int .u16 0, .int .u32 0, .bool false, .int .i64 0, .int .i64 0, .int .i64 0, .bool false, .int .u8 0, .int .u8 0, .int .u32 0, .int .i64 0, .int .i64 0, .int .i64 0, .int .i64 0, .int .i64 0, .bool false, .int .i64 0, .int .i64 0, .int .i64 0, .int .i64 0, .int .i64 0, .int .i64 0, .slice none 0 0, .int .i64 0, .int .i64 0, .int .i64 0, .bool false, .int .i64 0, .int .i64 0, .int .i64 0, .bool false, .int .i64 0, .int .i64 0, .int .i64 0, .int .i64 0, .int .i64 0, .int .i64 0, .int .i64 0, .bool false, .int .u32 0, .int .u8 0, .int .i64 0, .bool false, .int .u32 0, .int .u32 0, .int .u32 0] 43))
      replace HB := Lib.hid (PB.push HB.out (Obj.cells #[.int .u8 0, .int .u32 0, .int .u16 0, .int .u32 0, .bool false, .int .i64 0, .int .i64 0, .int .i64 0, .bool false, .int .u8 0, .int .u8 0, .int .u32 0, .int .i64 0, .int .i64 0, .int .i64 0, .int .i64 0, .int .i64 0, .bool false, .int .i64 0, .int .i64 0, .int .i64 0, .int .i64 0, .int .i64 0, .int .i64 0, .slice none 0 0, .int .i64 0, .int .i64 0, .int .i64 0, .bool false, .int .i64 0, .int .i64 0, .int .i64 0, .bool false, .int .i64 0, .int .i64 0, .int .i64 0, .int .i64 0, .int .i64 0, .int .i64 0, .int .i64 0, .bool false, .int .u32 0, .int .u8 0, .int .i64 0, .bool false, .int .u32 0, .int .u32 0, .int .u32 0] 43))
      have HPK : Hid (Pks (w5.alloc (Obj.cells #[.int .u8 0, .int .u32 0, .int .u16 0, .int .u32 0, .bool false, .int .i64 0, .int .i64 0, .int .i64 0, .bool false, .int .u8 0, .int .u8 0, .int .u32 0, .int .i64 0, .int .i64 0, .int .i64 0, .int .i64 0, .int .i64 0, .bool false, .int .i64 0, .int .i64 0, .int .i64 0, .int .i64 0, .int .i64 0, .int .i64 0, .slice none 0 0, .int .i64 0, .int .i64 0, .int .i64 0, .bool false, .int .i64 0, .int .i64 0, .int .i64 0, .bool false, .int .i64 0, .int .i64 0, .int .i64 0, .int .i64 0, .int .i64 0, .int .i64 0, .int .i64 0, .bool false, .int .u32 0, .int .u8 0, .int .i64 0, .bool false, .int .u32 0, .int .u32 0, .int .u32 0] 43)) w5.heap.size KA ks) := Lib.hid (HP9.out.keep (fun p hp => World.cell?_alloc_lt _ (Obj.cells #[.int .u8 0, .int .u32 0, .int .u16 0, .int .u32 0, .bool false, .int .i64 0, .int .i64 0, .int .i64 0, .bool false, .int .u8 0, .int .u8 0, .int .u32 0, .int .i64 0, .int .i64 0, .int .i64 0, .int .i64 0, .int .i64 0, .bool false, .int .i64 0, .int .i64 0, .int .i64 0, .int .i64 0, .int .i64 0, .int .i64 0, .slice none 0 0, .int .i64 0, .int .i64 0, .int .i64 0, .bool false, .int .i64 0, .int .i64 0, .int .i64 0, .bool false, .int .i64 0, .int .i64 0, .int .i64 0, .int .i64 0, .int .i64 0, .int .i64 0, .int .i64 0, .bool false, .int .u32 0, .int .u8 0, .int .i64 0, .bool false, .int .u32 0, .int .u32 0, .int .u32 0] 43) p hp))
      have hus := U.out.size
      have hw5 : w.heap.size ≤ w5.heap.size := by have h1 := U.out.size; simp at h1; omega
      go_upto_region 13 with (first | (refine wpList_store_part rfl 43 (.tmp 11) (.tmp 48) rfl (w5.heap.size) 0 rfl 43 (PL Sb.Pt.zero none 0 0) BZ (PL q A2 0 c2) rfl info_port (show 0 + 48 ≤ 48 by decide) rfl (PL q A2 0 c2) rfl ?_; intro WC BC OC) | fail)
      replace HPK := Lib.hid ((HPK.out.onlyN HN9.out OC (Or.inr (Nat.le_refl _))).more (m := WC.heap.size) (by rw [OC.2]; simp))
      replace U := Lib.hid (OC.bel U.out hw5)
      replace HB := Lib.hid (OC.blk HB.out (by omega))
      have HQ := Lib.hid (show PB WC w5.heap.size q A2 0 c2 from BC)
      have hq5 := BC.lt
      obtain ⟨g5, hg5⟩ : ∃ g, g = w5.heap.size := ⟨_, rfl⟩
      have hg15 : g1 < g5 := by omega
      rw [← hg5] at HQ hq5 ⊢
      clear BZ BC OC HP9 HN9 hg5 hus hw5
      rcases (show more = 0 ∨ more = 1 by omega) with rfl | rfl
      · obtain rfl : ks = [] := List.eq_nil_of_length_eq_zero hkl9
        have h10 := m3.1 rfl
        have h10i : (10 : Int) < ((row : Int) + 1) := by omega
        go_upto_region 20 with fail
        go_upto_region 7 with (first | (refine wpList_load_part rfl 43 (.tmp 11) rfl (g5) 0 rfl 43 (PL q A2 0 c2) HQ.out 48 _ Try.underlying43 info_port (show 0 + 48 ≤ 48 by decide) (PA q A2 0 c2) (by rfl) rfl ?_) | (refine wpList_store_part rfl 43 (.tmp 5) (.tmp 101) rfl (g1) 0 rfl 43 (PL p A' 0 c') HB.out (PL q A2 0 c2) rfl info_port (show 0 + 48 ≤ 48 by decide) rfl (PL q A2 0 c2) rfl ?_; intro WD BD OD) | fail)
        replace U := Lib.hid (OD.bel U.out hwg)
        replace HB := Lib.hid (show PB WD g1 q A2 0 c2 from BD)
        clear BD OD HQ HPK
        go_wp2_with fail
        go_roundg (gk - 1)
        case measure => omega
        case rel => exact ⟨k + 1, (row + 1), many, q, A2, c2, by omega, by go_num, rfl, by go_num, by omega, by omega, HM4, HB, hm9, U⟩
      · obtain ⟨a, rfl⟩ : ∃ a, ks = [a] := List.length_eq_one_iff.1 hkl9
        have h10 : ¬10 < (row + 1) := fun h => by have := m3.2 h; omega
        have h10i : ¬(10 : Int) < ((row : Int) + 1) := by omega
        have h10d : decide ((10 : Int) < ((row : Int) + 1)) = false := decide_eq_false h10i
        have h10l : ((row : Int) + 1) ≤ (10 : Int) := by omega
        obtain ⟨bK, oK, rfl, hlK, hcK⟩ := HPK.out.1 (by simp)
        have hm := HM5.out a.k (by rw [← HK9.out]; simp)
        obtain ⟨⟨mk, ty, sq, ti, so, pl⟩, B9, bc9⟩ := a
        obtain ⟨f1, f2, f3, f4⟩ := hm
        simp only at f1 f2 f3 f4
        subst f1 f2 f3
        have cK := fun j v hv => hcK 0 _ rfl j v hv
        simp only [Nat.zero_mul, Nat.add_zero] at cK
        have c0 : WC.cell? ⟨bK, oK, none⟩ = some (.bool mk) := cK 0 _ rfl
        have c1 := cK 1 _ rfl
        have c2' := cK 2 _ rfl
        have c3 := cK 3 _ rfl
        have c4 := cK 4 _ rfl
        have c5 := cK 5 _ rfl
        have c6 := cK 6 _ rfl
        have c7 := cK 7 _ rfl
        have c8 := cK 8 _ rfl
        have c9 := cK 9 _ rfl
        have c10 := cK 10 _ rfl
        clear cK hcK
        have BP := Lib.hid (Blk.new WC 57 #[.bool mk, .int .u8 ty, .int .u16 many, .int .u32 (160 * (k : Int)), .int .u32 so, .slice none 0 0, .bool false, .int .u16 0, .slice none 0 0, .slice B9 pl.length bc9, .int .i64 0])
        go_upto_region 17 with fail
        clear c0 c1 c2' c3 c4 c5 c6 c7 c8 c9 c10
        replace U := Lib.hid (U.out.push (.cells #[.bool mk, .int .u8 ty, .int .u16 many, .int .u32 (160 * (k : Int)), .int .u32 so, .slice none 0 0, .bool false, .int .u16 0, .slice none 0 0, .slice B9 pl.length bc9, .int .i64 0] 57))
        replace HB := Lib.hid (PB.push HB.out (.cells #[.bool mk, .int .u8 ty, .int .u16 many, .int .u32 (160 * (k : Int)), .int .u32 so, .slice none 0 0, .bool false, .int .u16 0, .slice none 0 0, .slice B9 pl.length bc9, .int .i64 0] 57))
        replace HQ := Lib.hid (PB.push HQ.out (.cells #[.bool mk, .int .u8 ty, .int .u16 many, .int .u32 (160 * (k : Int)), .int .u32 so, .slice none 0 0, .bool false, .int .u16 0, .slice none 0 0, .slice B9 pl.length bc9, .int .i64 0] 57))
        have hcv : IntKind.i64.wrap (many : Int) = (many : Int) := by simp only [IntKind.wrap, IntKind.bits, IntKind.signed]; simp; omega
        have hcw : wrap64 (160 * (k : Int)) = 160 * (k : Int) := IntWalk.wrap64_in _ ⟨by omega, by omega⟩
        have hcu : IntKind.u32.wrap (160 * (k : Int)) = 160 * (k : Int) := by simp only [IntKind.wrap, IntKind.bits, IntKind.signed]; simp; omega
        have p1 := BP.out.at 1 _ rfl
        have p2 := BP.out.at 2 _ rfl
        have p3 := BP.out.at 3 _ rfl
        have p4 := BP.out.at 4 _ rfl
        clear BP
        by_cases h13 : ty = 13
        · obtain rfl : row = 9 := by have := f4.1 h13; omega
          subst h13
          clear f4
          go_upto_region 20 with fail
          clear p1 p2 p3 p4
          go_upto_region 7 with (first | (refine wpList_load_part rfl 43 (.tmp 11) rfl (g5) 0 rfl 43 (PL q A2 0 c2) HQ.out 48 _ Try.underlying43 info_port (show 0 + 48 ≤ 48 by decide) (PA q A2 0 c2) (by rfl) rfl ?_) | (refine wpList_store_part rfl 43 (.tmp 5) (.tmp 101) rfl (g1) 0 rfl 43 (PL p A' 0 c') HB.out (PL q A2 0 c2) rfl info_port (show 0 + 48 ≤ 48 by decide) rfl (PL q A2 0 c2) rfl ?_; intro WD BD OD) | fail)
          replace U := Lib.hid (OD.bel U.out hwg)
          replace HB := Lib.hid (show PB WD g1 q A2 0 c2 from BD)
          clear BD OD HQ HPK
          go_wp2_with fail
          go_roundg (gk - 1)
          case measure => omega
          case rel => exact ⟨k + 1, 10, many + 1, q, A2, c2, by omega, by go_num, by go_num, by go_num, by omega, by omega, HM4, HB, hm9, U⟩
        have h9 : ¬(row : Int) + 1 = 10 := fun h => h13 (f4.2 (by omega))
        have h9a : ¬row = 9 := by omega
        have h9b : ¬(row : Int) = 9 := by omega
        have h9c : ¬row + 1 = 10 := by omega
        have h9d : decide ((row : Int) + 1 = 10) = false := decide_eq_false h9
        have h9e : ((row : Int) + 1 == 10) = false := by simpa using h9
        have h13d : decide (ty = 13) = false := decide_eq_false h13
        have h13e : (ty == 13) = false := by simpa using h13
        clear f4
        go_upto_region 20 with fail
        clear p1 p2 p3 p4
        go_upto_region 7 with (first | (refine wpList_load_part rfl 43 (.tmp 11) rfl (g5) 0 rfl 43 (PL q A2 0 c2) HQ.out 48 _ Try.underlying43 info_port (show 0 + 48 ≤ 48 by decide) (PA q A2 0 c2) (by rfl) rfl ?_) | (refine wpList_store_part rfl 43 (.tmp 5) (.tmp 101) rfl (g1) 0 rfl 43 (PL p A' 0 c') HB.out (PL q A2 0 c2) rfl info_port (show 0 + 48 ≤ 48 by decide) rfl (PL q A2 0 c2) rfl ?_; intro WD BD OD) | fail)
        replace U := Lib.hid (OD.bel U.out hwg)
        replace HB := Lib.hid (show PB WD g1 q A2 0 c2 from BD)
        clear BD OD HQ HPK
        go_wp2_with fail
        go_roundg (gk - 1)
        case measure => omega
        case rel => exact ⟨k + 1, row + 1, many + 1, q, A2, c2, by omega, by go_num, by go_num, by go_num, by omega, by omega, HM4, HB, hm9, U⟩
end Go.Proofs.Ytahbecinkciahaa

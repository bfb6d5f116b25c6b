/- Layer 32: Send, speech. -/
import Derived.Test.YtahbecinkciahaaSbLivRQ
import Derived.Test.YtahbecinkciahaaJtPlainQ
import Derived.Test.YtahbecinkciahaaJtCopyQ
import Derived.Test.YtahbecinkciahaaSbDecsQ
import Derived.Test.YtahbecinkciahaaJtPutG1Q
namespace Go.Proofs.Ytahbecinkciahaa
open Go.RowKit
set_option linter.unusedVariables false
set_option linter.unusedSimpArgs false
attribute [local go_sem ↓] run_min_plain run_max_plain
attribute [local go_sem] setCell_drewN alloc_drewN
set_option maxRecDepth 100000 in
set_option maxHeartbeats 12800000 in
theorem sdS_wp {w W : World} {p : Sb.Pt} {A : Option Addr} {l : List TW} {n c : Nat} {gl gq : Nat} {ZA : Option Addr} {zs : List Int} {zc : Nat} {A0 : Option Addr} {l0 : List TW} {n0 c0 : Nat} (C : SC w p A0 l0 n0 c0 ZA zs zc) (S : SS w W gl p A n c l none 0 0) (BQ : Blk W gq 26 #[.int .i64 (Ev.quiet p.below zs)]) (hgq : gl < gq) (hon : p.tn.on = false) (hen : p.tn.ends = 0) (hqu : ¬Ev.quiet p.below zs = 10) (a : Act) (ha : FrS w.heap.size gl gq ZA zc (Ev.quiet p.below zs == 10) a) : firstWp Try.prog sdB_code (bodyPost Try.prog Try.f10 (SendR ({ (Sb.emit { p with below := Ev.quiet p.below zs } p.codec p.time p.mrk (Sb.enc p.codec (p.cv, p.ci) zs).1).1 with mrk := false, cv := (Sb.enc p.codec (p.cv, p.ci) zs).2.1, ci := (Sb.enc p.codec (p.cv, p.ci) zs).2.2, time := (p.time + 160) % 4294967296 }, [(Sb.emit { p with below := Ev.quiet p.below zs } p.codec p.time p.mrk (Sb.enc p.codec (p.cv, p.ci) zs).1).2]) w)) a W := by
  obtain ⟨s, rfl⟩ := ha
  have hvb : speechB p.codec = true ∧ Dlt.valid p.cv p.ci = true := by
    have hv := C.v
    unfold Sb.Pt.valid at hv
    simp only [Bool.and_eq_true] at hv
    exact ⟨hv.1.1.1.1, hv.1.1.1.2⟩
  obtain ⟨FK, FC, FD, hE⟩ := encK p.codec p.cv p.ci hvb.1 hvb.2 ZA zc zs C.zb C.zl
  have hel := (Sb.enc_in p.codec (p.cv, p.ci) zs hvb.2 C.zl).2.1
  generalize Sb.enc p.codec (p.cv, p.ci) zs = EE at *
  obtain ⟨bs, es⟩ := EE
  obtain ⟨QN, hQN⟩ : ∃ q, q = Ev.quiet p.below zs := ⟨_, rfl⟩
  have HW5 := Lib.hid (show ({ p with below := QN } : Sb.Pt).wf from ⟨C.wf.codec, C.wf.src, C.wf.seq, C.wf.time, by rw [hQN]; show -9223372036854775808 ≤ Ev.quiet p.below zs ∧ Ev.quiet p.below zs ≤ 9223372036854775807; unfold Ev.quiet; split <;> omega, C.wf.tvol, C.wf.tcode, C.wf.tst, C.wf.seed, C.wf.pk, C.wf.oc⟩)
  rw [← hQN] at BQ hqu ⊢
  rw [show (QN == 10) = false by rw [beq_eq_false_iff_ne]; exact hqu]
  clear hqu hQN
  obtain ⟨q9, hq9⟩ : ∃ q, q = (Sb.emit { p with below := QN } p.codec p.time p.mrk bs).1 := ⟨_, rfl⟩
  obtain ⟨k9, hk9⟩ : ∃ k, k = (Sb.emit { p with below := QN } p.codec p.time p.mrk bs).2 := ⟨_, rfl⟩
  simp only at hel
  rw [← hq9, ← hk9]
  have HQ9 := Lib.hid hq9
  have HK9 := Lib.hid hk9
  have H9T := Lib.hid (show q9.time = p.time by rw [hq9]; rfl)
  have H9P := Lib.hid (show k9.pl = bs by rw [hk9]; rfl)
  clear hq9 hk9 hvb
  refine first_b ?_
  intro _ _
  have hgg := S.lt
  have x8 := S.cell 8 _ rfl
  have x13 := S.cell 13 _ rfl
  rw [hon] at x8
  rw [hen] at x13
  go_upto_region 8 with (first | (refine wpList_load_part rfl 26 (.tmp 9) rfl (gq) 0 rfl 26 ([.int .i64 QN]) BQ 1 _ Try.underlying26 info_qui (show 0 + 1 ≤ 1 by decide) (#[.int .i64 QN]) (by rfl) rfl ?_) | (refine wpList_store_part rfl 26 (.tmp 42) (.tmp 41) rfl (w.heap.size) 5 rfl 43 (PL p A n c) S.m.box ([.int .i64 QN]) rfl info_qui (show 5 + 1 ≤ 48 by decide) rfl (PL { p with below := QN } A n c) rfl ?_; intro WG BG OG) | fail)
  clear x8 x13
  replace S := S.over OG BG rfl
  clear BG OG BQ
  have x0d : WG.cell? ⟨w.heap.size, 0, none⟩ = some (.int .u8 p.codec) := S.cell 0 _ rfl
  have x6d : WG.cell? ⟨w.heap.size, 6, none⟩ = some (.int .i64 p.cv) := S.cell 6 _ rfl
  have x7d : WG.cell? ⟨w.heap.size, 7, none⟩ = some (.int .i64 p.ci) := S.cell 7 _ rfl
  simp only [Act.put]
  have hglt := S.bl.lt
  have hqlt := S.u.size
  refine sr8_wp w.heap.size p.codec p.cv p.ci C.wf.codec.1 C.wf.codec.2 ZA zs zc bs es FK FC FD hE WG x0d x6d x7d (C.z.later S.u) (fun _ _ _ _ _ h => h) ?_
  intro wx A8 c8 g8 u43 u44 u45 u46 u47 u48 u49 u50 u51 u52 u53 u54 u55 HI8 HD8 hg8 HB8
  have hwx := HB8.out.size
  have HN8 := Lib.hid HI8.out.2
  replace S := S.later HB8.out
  clear x0d x6d x7d HB8
  have HP9 : Hid (IntsAv wx [gl, w.heap.size + 1, w.heap.size] .u8 A8 bs) := Lib.hid (IntsAv.of_new HI8.out (by intro x hx; simp at hx; omega))
  replace hg8 := hg8.out
  have k6 := Lib.hid fun (V : World) hM hL => emit_any [gl, w.heap.size + 1, w.heap.size] w.heap.size gl { p with below := QN } HW5.out A n c l p.codec p.time p.mrk A8 bs c8 V hM (by simp) (by simp) (by omega) hL (by omega)
  have x0 := S.cell 0 _ rfl
  have x3 := S.cell 3 _ rfl
  have x4 := S.cell 4 _ rfl
  go_upto_region 11 with fail
  go_wp2_with fail
  refine (k6.out _ S.m S.bl).mono ?_
  rintro e w8 ⟨rfl, A9, c9, M9, L9, O9, C9⟩
  rw [← HQ9.out] at M9
  rw [← HK9.out] at O9
  replace S := S.emit M9 L9 C9
  replace HP9 := Lib.hid (HP9.out.chg C9 (by simp))
  replace HD8 := Lib.hid (C9.blk HD8.out (by simp; omega))
  have K9 : Hid (PkS w8 w.heap.size [gl, w.heap.size + 1, w.heap.size] A9 [⟨k9, A8, c8⟩]) := Lib.hid (PkS.one O9 HP9.out H9P.out (by intro x hx; simp at hx; omega) (by omega) (fun h0 b off e => by have := HN8.out h0 b off e; omega))
  clear M9 L9 O9 C9 x0 x3 x4 HI8 k6 HP9
  have x4 := S.cell 4 _ rfl
  have z4 := Blk.frozen S.m.box 4
  go_upto_region 13 with fail
  obtain ⟨WH, hV⟩ : ∃ V, V = w8.setCell ⟨w.heap.size, 4, none⟩ (.bool false) := ⟨_, rfl⟩
  rw [← hV]
  have OV : OnlyB w.heap.size w8 WH := by rw [hV]; exact OnlyB.setCell _ _ _ _
  replace S : SS w WH gl { q9 with mrk := false } A n c l A9 1 c9 := by rw [hV]; exact S.set 4 _ rfl rfl
  replace K9 := Lib.hid (K9.out.chg (Chg.of_only OV (S := [w.heap.size]) (by simp)) (by simp))
  replace HD8 := Lib.hid (OV.blk HD8.out (by omega))
  clear hV OV x4 z4
  obtain ⟨es1, es2⟩ := es
  go_upto_region 31 with (first | (refine wpList_load_part rfl 28 (.tmp 18) rfl (g8) 0 rfl 28 ([.int .i64 es1, .int .i64 es2]) HD8.out 2 _ Try.underlying28 info_dst (show 0 + 2 ≤ 2 by decide) (#[.int .i64 es1, .int .i64 es2]) (by rfl) rfl ?_) | (refine wpList_store_part rfl 28 (.tmp 71) (.tmp 70) rfl (w.heap.size) 6 rfl 43 (PL { q9 with mrk := false } A n c) S.m.box ([.int .i64 es1, .int .i64 es2]) rfl info_dst (show 6 + 2 ≤ 48 by decide) rfl (PL { q9 with mrk := false, cv := es1, ci := es2 } A n c) rfl ?_; intro WJ BJ OJ) | fail)
  replace S := S.over OJ BJ rfl
  replace K9 := Lib.hid (K9.out.chg (Chg.of_only OJ (S := [w.heap.size]) (by simp)) (by simp))
  clear BJ OJ HD8
  refine first1 (by assumption) ?_
  have ht := C.wf.time
  rw [← H9T.out] at ht ⊢
  exact sdT_wp (ks := [⟨k9, A8, c8⟩]) S K9.out ht.1 ht.2 _ FrT.mk
end Go.Proofs.Ytahbecinkciahaa
/- Layer 32: Send without a tone. -/
namespace Go.Proofs.Ytahbecinkciahaa
open Go.RowKit
set_option linter.unusedVariables false
set_option linter.unusedSimpArgs false
theorem Send_off {w : World} {p : Sb.Pt} {A : Option Addr} {l : List TW} {n c : Nat} {ZA : Option Addr} {zs : List Int} {zc : Nat} {X : Array Value} (C : SC w p A l n c ZA zs zc) (hX : X = PA p A n c) (hon : p.tn.on = false) (hen : p.tn.ends = 0) : Calls Try.prog 10 #[.agg X, .slice ZA 160 zc] w (SendR (Sb.send0 p zs) w) := by
  refine send_pre C hX fun W a gl gq A2 c2 l2 S BQ hgq ha => ?_
  unfold Sb.send0 Sb.later
  rw [if_neg (by rw [hon, hen]; decide)]
  by_cases hq : Ev.quiet p.below zs = 10
  · rw [if_pos hq]
    by_cases hb : p.below < 10
    · rw [if_pos hb]
      have h := sdA_wp C S BQ hgq hon hen hq hb a ha
      simp only [hq] at h ⊢
      exact h
    · rw [if_neg hb]
      have h := sdB_wp C S BQ hgq hon hen hq hb a ha
      simp only [hq] at h ⊢
      exact h
  · rw [if_neg hq]
    exact sdS_wp C S BQ hgq hon hen hq a ha
end Go.Proofs.Ytahbecinkciahaa
/- Layer 32: New. -/
namespace Go.Proofs.Ytahbecinkciahaa
open Go.RowKit
set_option linter.unusedVariables false
set_option linter.unusedSimpArgs false
attribute [local go_sem ↓] run_min_plain run_max_plain
attribute [local go_sem] setCell_drewN alloc_drewN
/-- what New leaves -/
def NewP (k src l m : Int) (w : World) (e : Ending) (w' : World) : Prop := e = .returned (.tuple #[.agg (PA (Sb.new k src l m).1 none 0 0), .int .u8 (Sb.new k src l m).2]) ∧ Below w.heap.size w w'
set_option maxRecDepth 100000 in
set_option maxHeartbeats 12800000 in
theorem New_any (k src l m : Int) (h0 : 0 ≤ k) (h1 : k ≤ 255) (w : World) : Calls Try.prog 6 #[.int .u8 k, .int .u32 src, .agg #[.int .i64 l, .int .i64 m]] w (NewP k src l m w) := by
  have BC := Lib.hid ((Blk.new w 32 #[.int .i64 l, .int .i64 m]).push (.cells (PA Sb.Pt.zero none 0 0) 43))
  have B1 := Lib.hid (Blk.new1 w (.cells #[.int .i64 l, .int .i64 m] 32) 43 (PA Sb.Pt.zero none 0 0))
  have U0 := Lib.hid (((Bel.refl w).push (.cells #[.int .i64 l, .int .i64 m] 32)).push (.cells (PA Sb.Pt.zero none 0 0) 43))
  have k1 := Lib.hid fun W => speech_any k W h0 h1
  have k2 := Lib.hid fun W => new_any l m W
  unfold NewR at k2
  obtain ⟨v, hv⟩ : ∃ v, v = speechB k := ⟨_, rfl⟩
  rw [← hv] at k1
  have HV := Lib.hid hv
  clear hv
  go_enter Try.func6, Try.ntmps6
  go_upto_region 1 with fail
  change Code.wp _ _ _ _ ((w.alloc (Obj.cells #[.int .i64 l, .int .i64 m] 32)).alloc (Obj.cells (PA Sb.Pt.zero none 0 0) 43))
  obtain ⟨W, hW⟩ : ∃ W, W = (w.alloc (Obj.cells #[.int .i64 l, .int .i64 m] 32)).alloc (Obj.cells (PA Sb.Pt.zero none 0 0) 43) := ⟨_, rfl⟩
  rw [← hW] at BC B1 U0 ⊢
  clear hW
  go_wp2_with fail
  refine (k1.out _).mono ?_
  rintro e w1 ⟨rfl, hb1⟩
  replace U0 := Lib.hid (U0.out.later hb1)
  replace BC := Lib.hid (BC.out.later hb1)
  replace B1 := Lib.hid (B1.out.later hb1)
  have hlt := B1.out.lt
  clear hb1
  cases v
  · have HN : Hid (Sb.new k src l m = (Sb.Pt.zero, 15)) := Lib.hid (by unfold Sb.new; rw [← HV.out, if_pos rfl])
    go_wp2_with (first | (refine wpList_store_part rfl 43 (.tmp 6) (.tmp 13) rfl (w.heap.size + 1) 0 rfl 43 (PL Sb.Pt.zero none 0 0) B1.out (PL Sb.Pt.zero none 0 0) rfl info_port (show 0 + 48 ≤ 48 by decide) rfl (PL Sb.Pt.zero none 0 0) rfl ?_; intro WH BH OH) | fail)
    refine bodyPost_ret (v := .tuple #[.agg (PA (Sb.new k src l m).1 none 0 0), .int .u8 (Sb.new k src l m).2]) (res_ct Try.results6 rfl (by rw [HN.out]; exact PB.load BH) (by rw [HN.out]; rfl)) rfl ⟨rfl, OH.bel U0.out (by omega)⟩
  have c0 := BC.out.at 0 _ rfl
  have c1 := BC.out.at 1 _ rfl
  go_wp2_with fail
  refine (k2.out _).mono ?_
  rintro e w2 ⟨rfl, hb2⟩
  replace U0 := Lib.hid (U0.out.later hb2)
  replace B1 := Lib.hid (B1.out.later hb2)
  have HN : Hid (Sb.new k src l m = (if (Jb.new l m).2 = 0 then { Sb.Pt.zero with codec := k, src := src, mrk := true, jt := (Jb.new l m).1, seed := src } else Sb.Pt.zero, (Jb.new l m).2)) := Lib.hid (by
    unfold Sb.new Jb.new
    rw [← HV.out, if_neg (by decide)]
    by_cases hc : Jb.cfg l m
    · rw [if_pos hc, if_pos hc]; rfl
    · rw [if_neg hc, if_neg hc]; rfl)
  have hus := U0.out.size
  clear hb2 c0 c1
  unfold JV
  generalize Jb.new l m = R at *
  obtain ⟨R1, R2⟩ := R
  simp only at HN
  have BJ := Lib.hid (Blk.new w2 35 (JW R1 none 0 0).toArray)
  obtain ⟨g1, hg1⟩ : ∃ g, g = w2.heap.size := ⟨_, rfl⟩
  obtain ⟨W3, hW3⟩ : ∃ W, W = w2.alloc (.cells (JW R1 none 0 0).toArray 35) := ⟨_, rfl⟩
  have BB := Lib.hid (show Below w2.heap.size w2 W3 by rw [hW3]; exact (Below.refl _ _).alloc (Nat.le_refl _) _)
  rw [← hg1, ← hW3] at BJ
  go_upto_region 4 with fail
  rw [← hg1]
  change Code.wp _ _ _ _ (w2.alloc (Obj.cells (JW R1 none 0 0).toArray 35))
  rw [← hW3]
  replace U0 := Lib.hid (U0.out.later BB.out)
  replace B1 := Lib.hid (B1.out.later BB.out)
  clear hW3 hg1 BB
  by_cases hr : R2 = 0
  rotate_left
  · replace HN := Lib.hid (HN.out.trans (by rw [if_neg hr]))
    go_wp2_with (first | (refine wpList_store_part rfl 43 (.tmp 6) (.tmp 21) rfl (w.heap.size + 1) 0 rfl 43 (PL Sb.Pt.zero none 0 0) B1.out (PL Sb.Pt.zero none 0 0) rfl info_port (show 0 + 48 ≤ 48 by decide) rfl (PL Sb.Pt.zero none 0 0) rfl ?_; intro WH BH OH) | fail)
    refine bodyPost_ret (v := .tuple #[.agg (PA (Sb.new k src l m).1 none 0 0), .int .u8 (Sb.new k src l m).2]) (res_ct Try.results6 rfl (by rw [HN.out]; exact PB.load BH) (by rw [HN.out]; rfl)) rfl ⟨rfl, OH.bel U0.out (by omega)⟩
  subst hr
  replace HN := Lib.hid (HN.out.trans (by rw [if_pos rfl]))
  go_wp2_with (first | (refine wpList_load_part rfl 35 (.tmp 8) rfl (g1) 0 rfl 35 (JW R1 none 0 0) BJ.out 14 _ Try.underlying35 info_jit (show 0 + 14 ≤ 14 by decide) (#[.int .i64 R1.least, .int .i64 R1.most, .int .i64 R1.now, .bool R1.on, .int .i64 R1.zero, .int .i64 R1.first, .int .i64 R1.high, .int .i64 R1.done, .int .i64 R1.spread, .int .i64 R1.trans, .slice none 0 0, .int .i64 R1.late, .int .i64 R1.twice, .int .i64 R1.played]) (by rfl) rfl ?_) | (refine wpList_store_part rfl 43 (.tmp 6) (.tmp 27) rfl (w.heap.size + 1) 0 rfl 43 (PL Sb.Pt.zero none 0 0) B1.out (PL { Sb.Pt.zero with codec := k, src := src, mrk := true, jt := R1, seed := src } none 0 0) rfl info_port (show 0 + 48 ≤ 48 by decide) rfl (PL { Sb.Pt.zero with codec := k, src := src, mrk := true, jt := R1, seed := src } none 0 0) rfl ?_; intro WH BH OH) | fail)
  refine bodyPost_ret (v := .tuple #[.agg (PA (Sb.new k src l m).1 none 0 0), .int .u8 (Sb.new k src l m).2]) (res_ct Try.results6 rfl (by rw [HN.out]; exact PB.load BH) (by rw [HN.out]; rfl)) rfl ⟨rfl, OH.bel U0.out (by omega)⟩
end Go.Proofs.Ytahbecinkciahaa

/- Layer 30, JitterPlays: the two calls that play. -/
import Derived.Test.YtnaafjdnmbajjaaJtLInsQ
import Derived.Test.YtnaafjdnmbajjaaJtPutSQ
namespace Go.Proofs.Ytnaafjdnmbajjaa
open Go.RowKit
set_option linter.unusedVariables false
set_option linter.unusedSimpArgs false
attribute [local go_sem ↓] run_min_plain run_max_plain
attribute [local go_sem] setCell_drewN alloc_drewN
/-- what a store into the box g leaves as it was -/
structure Keeps (W wx : World) (g : Nat) : Prop where
  wts : ∀ (A : Option Addr) (l : List TW), Wts W W.heap.size A l → Wts wx wx.heap.size A l
  blk : ∀ (g' : Nat) (t : TypeId) (cs : Array Value), g' ≠ g → Blk W g' t cs → Blk wx g' t cs
  size : W.heap.size ≤ wx.heap.size
  bel : ∀ w : World, w.heap.size ≤ g → Bel w W → Bel w wx
theorem Keeps.of {W wp : World} {g c : Nat} {s : Jb.Jt} {A : Option Addr} {l : List TW} (hb : Below W.heap.size W wp) (hs : SBox wp g s A c l) (vs : List Value) : Keeps W (setRow g wp 0 vs) g :=
  ⟨fun A l h => by rw [setRow_size]; exact (h.later hb).setRowNe hs.blk (JL_no _ _ _ _) vs, fun g' t cs hne h => (h.later hb).farRow hne vs wp 0, by rw [setRow_size]; exact hb.size, fun w hw h => below_setRow hw vs wp 0 (h.later hb)⟩
theorem run_c {s s' : Jb.Jt} {now : Int} {lp : List Jb.Wt} {er : Int} {w w' : World} {e : Ending} (h : Jb.run s now = (s', lp, er)) (hp : JRunR s now w e w') :
    ∃ (A1 : Option Addr) (c1 : Nat) (l1 : List TW) (A2 : Option Addr) (c2 : Nat) (l2 : List TW), e = .returned (.tuple #[.agg (JL s' A2 l2.length c2).toArray, .slice A1 l1.length c1, .int .u8 er]) ∧ l1.map TW.w = lp ∧ l2.map TW.w = s'.q ∧ Wts w' w'.heap.size A1 l1 ∧ Wts w' w'.heap.size A2 l2 ∧ l2.length ≤ c2 ∧ c2 ≤ maxLen ∧ Below w.heap.size w w' ∧ l1.length ≤ c1 ∧ c1 ≤ maxLen := by
  obtain ⟨A1, c1, l1, A2, c2, l2, he, h1, h2, h3, h4, h5, h6, h7⟩ := hp
  rw [h] at he h1 h2
  exact ⟨A1, c1, l1, A2, c2, l2, he, h1, h2, h3, h4, h5, h6, h7⟩
theorem put_c {s s' : Jb.Jt} {now : Int} {m : Jb.Md} {lp : List Jb.Wt} {v er : Int} {w w' : World} {e : Ending} (h : Jb.put s now m = (s', lp, v, er)) (hp : JPutR s now m w e w') :
    ∃ (A1 : Option Addr) (c1 : Nat) (l1 : List TW) (A2 : Option Addr) (c2 : Nat) (l2 : List TW), e = .returned (.tuple #[.agg (JL s' A2 l2.length c2).toArray, .slice A1 l1.length c1, .int .u8 v, .int .u8 er]) ∧ l1.map TW.w = lp ∧ l2.map TW.w = s'.q ∧ Wts w' w'.heap.size A1 l1 ∧ Wts w' w'.heap.size A2 l2 ∧ l2.length ≤ c2 ∧ c2 ≤ maxLen ∧ Below w.heap.size w w' ∧ l1.length ≤ c1 ∧ c1 ≤ maxLen := by
  obtain ⟨A1, c1, l1, A2, c2, l2, he, h1, h2, h3, h4, h5, h6, h7⟩ := hp
  rw [h] at he h1 h2
  exact ⟨A1, c1, l1, A2, c2, l2, he, h1, h2, h3, h4, h5, h6, h7⟩
noncomputable def pl19_code : Code := ((Try.f8.body.bind (findRegJ 19)).getD .skip)
set_option maxRecDepth 100000 in
set_option maxHeartbeats 12800000 in
theorem pl19_wp {q0 q1 q2 q3 q4 q6 q7 q9 q10 q11 q12 q13 q14 q15 q16 q17 q18 q19 q20 q21 q22 q23 q24 q25 q26 q27 q28 q29 q30 q31 q32 q33 q34 q35 q36 q37 q38 q39 q40 q41 q42 q43 q44 q45 q46 q47 q48 q49 q50 q51 q52 q53 q54 q55 q56 q57 q58 q59 q60 q61 q62 q63 q64 q65 q66 q67 q68 q69 q70 q71 q72 q73 q74 q75 q76 q77 q78 q79 q80 q81 q82 q83 q84 q85 q86 q87 q88 q89 q90 q91 q92 q93 q94 q95 q96 q97 q98 q99 q100 q101 q102 q103 q104 q105 q106 q107 q108 q109 q110 q111 q112 q113 q114 q115 q116 q117 q118 q119 q120 q121 q122 q123 q124 q125 q126 q127 q128 q129 q130 q131 q132 q133 q134 q135 q136 q137 q138 q139 q140 q141 q142 q143 q144 q145 q146 q147 q148 q149 q150 q151 q152 q153 q154 q155 q156 q157 q158 q159 q160 q161 q162 q163 q164 q165 q166 q167 q168 q169 q170 q171 q172 q173 q174 q175 q176 q177 q178 q179 q180 q181 q182 q183 q184 q185 q186 q187 q188 q189 q190 q191 q192 q193 q194 q195 q196 q197 q198 q199 : Value} {Q : Exit → Act → World → Prop} (W : World) (g c : Nat) (s s1 : Jb.Jt) (A : Option Addr) (l : List TW) (lp : List Jb.Wt) (now : Int) (SB : SBox W g s A c l) (hl : l.length ≤ 1000) (hks : ∀ x ∈ s.q, I64 x.m.sq) (hrun : Jb.run s now = (s1, lp, 0))
    (h : ∀ (wx : World) (A3 : Option Addr) (c3 : Nat) (l3 : List TW) (A4 : Option Addr) (c4 : Nat) (l4 : List TW) (u87 u88 u89 u90 u91 u92 u93 : Value), l3.map TW.w = lp → Hid (Wts wx wx.heap.size A3 l3) → Hid (l3.length ≤ c3 ∧ c3 ≤ maxLen) → Hid (Keeps W wx g) → Hid (SBox wx g s1 A4 c4 l4) → Q .normal ⟨#[q0, q1, q2, q3, q4, .pointer (some ⟨g, 0, none⟩), .int .u8 0, q7, .int .i64 now, q9, .slice A3 l3.length c3, q11, q12, q13, q14, q15, q16, q17, q18, q19, q20, q21, q22, q23, q24, q25, q26, q27, q28, q29, q30, q31, q32, q33, q34, q35, q36, q37, q38, q39, q40, q41, q42, q43, q44, q45, q46, q47, q48, q49, q50, q51, q52, q53, q54, q55, q56, q57, q58, q59, q60, q61, q62, q63, q64, q65, q66, q67, q68, q69, q70, q71, q72, q73, q74, q75, q76, q77, q78, q79, q80, q81, q82, q83, q84, q85, q86, u87, u88, u89, u90, u91, u92, u93, q94, q95, q96, q97, q98, q99, q100, q101, q102, q103, q104, q105, q106, q107, q108, q109, q110, q111, q112, q113, q114, q115, q116, q117, q118, q119, q120, q121, q122, q123, q124, q125, q126, q127, q128, q129, q130, q131, q132, q133, q134, q135, q136, q137, q138, q139, q140, q141, q142, q143, q144, q145, q146, q147, q148, q149, q150, q151, q152, q153, q154, q155, q156, q157, q158, q159, q160, q161, q162, q163, q164, q165, q166, q167, q168, q169, q170, q171, q172, q173, q174, q175, q176, q177, q178, q179, q180, q181, q182, q183, q184, q185, q186, q187, q188, q189, q190, q191, q192, q193, q194, q195, q196, q197, q198, q199], []⟩ wx) : Code.wp Try.prog pl19_code Q ⟨#[q0, q1, q2, q3, q4, .pointer (some ⟨g, 0, none⟩), q6, q7, .int .i64 now, q9, q10, q11, q12, q13, q14, q15, q16, q17, q18, q19, q20, q21, q22, q23, q24, q25, q26, q27, q28, q29, q30, q31, q32, q33, q34, q35, q36, q37, q38, q39, q40, q41, q42, q43, q44, q45, q46, q47, q48, q49, q50, q51, q52, q53, q54, q55, q56, q57, q58, q59, q60, q61, q62, q63, q64, q65, q66, q67, q68, q69, q70, q71, q72, q73, q74, q75, q76, q77, q78, q79, q80, q81, q82, q83, q84, q85, q86, q87, q88, q89, q90, q91, q92, q93, q94, q95, q96, q97, q98, q99, q100, q101, q102, q103, q104, q105, q106, q107, q108, q109, q110, q111, q112, q113, q114, q115, q116, q117, q118, q119, q120, q121, q122, q123, q124, q125, q126, q127, q128, q129, q130, q131, q132, q133, q134, q135, q136, q137, q138, q139, q140, q141, q142, q143, q144, q145, q146, q147, q148, q149, q150, q151, q152, q153, q154, q155, q156, q157, q158, q159, q160, q161, q162, q163, q164, q165, q166, q167, q168, q169, q170, q171, q172, q173, q174, q175, q176, q177, q178, q179, q180, q181, q182, q183, q184, q185, q186, q187, q188, q189, q190, q191, q192, q193, q194, q195, q196, q197, q198, q199], []⟩ W := by
  obtain ⟨b0, b1, b2, b3, b4, b5, b6, b7, b8, b9, b10, b11, b12, b13⟩ := Blk.c14 SB.blk
  have sfz := SB.blk.frozen
  have hgl := SB.blk.lt
  have k := Lib.hid (jrun_st s A l l.length c now W SB.q rfl (by omega) SB.cap SB.cm SB.wts (keys_small SB.q hks))
  have HRUN := Lib.hid hrun
  have HS := Lib.hid SB
  clear hrun hks SB
  conv => arg 2; whnf
  go_wp2_with fail
  refine k.out.mono ?_
  rintro e wp hjr
  obtain ⟨A3, c3, l3, A4, c4, l4, rfl, h1, h2, h3, h4, h5, h6, hbp, hca, hcb⟩ := run_c HRUN.out hjr
  simp only [JL]
  have SBo := HS.out.later hbp
  have HSX := Lib.hid (SBo.store (s' := s1) h2 h5 h6 h4)
  have HKX := Lib.hid (Keeps.of hbp SBo (JL s1 A4 l4.length c4))
  have hwx : Wts (setRow g wp 0 (JL s1 A4 l4.length c4)) (setRow g wp 0 (JL s1 A4 l4.length c4)).heap.size A3 l3 := by rw [setRow_size]; exact h3.setRowNe SBo.blk (JL_no _ _ _ _) _
  have HWX := Lib.hid hwx
  have HM := Lib.hid h1
  have HCA := Lib.hid (And.intro hca hcb)
  clear hwx b0 b1 b2 b3 b4 b5 b6 b7 b8 b9 b10 b11 b12 b13 sfz
  obtain ⟨z0, z1, z2, z3, z4, z5, z6, z7, z8, z9, z10, z11, z12, z13⟩ := Blk.c14 SBo.blk
  have sfz := SBo.blk.frozen
  have hgl2 := SBo.blk.lt
  clear SBo hbp hjr h1 h2 h3 h4 h5 h6 hca hcb
  obtain ⟨wx, hwx⟩ : ∃ W, W = setRow g wp 0 (JL s1 A4 l4.length c4) := ⟨_, rfl⟩
  rw [← hwx] at HSX HKX HWX
  simp only [JL, setRow, Nat.zero_add, Nat.reduceAdd] at hwx
  go_wp2_with fail
  rw [← hwx]
  exact h _ A3 c3 l3 A4 c4 l4 _ _ _ _ _ _ _ HM.out HWX HCA HKX HSX
noncomputable def pl20_code : Code := ((Try.f8.body.bind (findRegJ 20)).getD .skip)
set_option maxRecDepth 100000 in
set_option maxHeartbeats 12800000 in
theorem pl20_wp {q0 q1 q2 q3 q4 q6 q7 q9 q10 q11 q12 q14 q15 q16 q17 q18 q19 q20 q21 q22 q23 q24 q25 q26 q27 q28 q29 q30 q31 q32 q33 q34 q35 q36 q37 q38 q39 q40 q41 q42 q43 q44 q45 q46 q47 q48 q49 q50 q51 q52 q53 q54 q55 q56 q57 q58 q59 q60 q61 q62 q63 q64 q65 q66 q67 q68 q69 q70 q71 q72 q73 q74 q75 q76 q77 q78 q79 q80 q81 q82 q83 q84 q85 q86 q87 q88 q89 q90 q91 q92 q93 q94 q95 q96 q97 q98 q99 q100 q101 q102 q103 q104 q105 q106 q107 q108 q109 q110 q111 q112 q113 q114 q115 q116 q117 q118 q119 q120 q121 q122 q123 q124 q125 q126 q127 q128 q129 q130 q131 q132 q133 q134 q135 q136 q137 q138 q139 q140 q141 q142 q143 q144 q145 q146 q147 q148 q149 q150 q151 q152 q153 q154 q155 q156 q157 q158 q159 q160 q161 q162 q163 q164 q165 q166 q167 q168 q169 q170 q171 q172 q173 q174 q175 q176 q177 q178 q179 q180 q181 q182 q183 q184 q185 q186 q187 q188 q189 q190 q191 q192 q193 q194 q195 q196 q197 q198 q199 : Value} {Q : Exit → Act → World → Prop} (W : World) (g c : Nat) (s s1 : Jb.Jt) (A : Option Addr) (l : List TW) (lp : List Jb.Wt) (now : Int) (vd : Int) (gm : Nat) (m : Jb.Md) (M : Option Addr) (mc : Nat) (SB : SBox W g s A c l) (hl : l.length ≤ 1000) (hks : ∀ x ∈ s.q, I64 x.m.sq) (BM : Blk W gm 29 #[.int .i64 m.sq, .int .i64 m.ti, .bool m.mrk, .int .u8 m.ty, .slice M m.pl.length mc]) (hmp : m.pl.length ≤ 100000) (hMI : IntsAt W W.heap.size .u8 M m.pl) (hrun : Jb.put s now m = (s1, lp, vd, 0))
    (h : ∀ (wx : World) (A3 : Option Addr) (c3 : Nat) (l3 : List TW) (A4 : Option Addr) (c4 : Nat) (l4 : List TW) (u94 u95 u96 u97 u98 u99 u100 u101 u102 : Value), l3.map TW.w = lp → Hid (Wts wx wx.heap.size A3 l3) → Hid (l3.length ≤ c3 ∧ c3 ≤ maxLen) → Hid (Keeps W wx g) → Hid (SBox wx g s1 A4 c4 l4) → Q .normal ⟨#[q0, q1, q2, q3, q4, .pointer (some ⟨g, 0, none⟩), .int .u8 0, q7, .int .i64 now, q9, .slice A3 l3.length c3, .int .u8 vd, q12, .pointer (some ⟨gm, 0, none⟩), q14, q15, q16, q17, q18, q19, q20, q21, q22, q23, q24, q25, q26, q27, q28, q29, q30, q31, q32, q33, q34, q35, q36, q37, q38, q39, q40, q41, q42, q43, q44, q45, q46, q47, q48, q49, q50, q51, q52, q53, q54, q55, q56, q57, q58, q59, q60, q61, q62, q63, q64, q65, q66, q67, q68, q69, q70, q71, q72, q73, q74, q75, q76, q77, q78, q79, q80, q81, q82, q83, q84, q85, q86, q87, q88, q89, q90, q91, q92, q93, u94, u95, u96, u97, u98, u99, u100, u101, u102, q103, q104, q105, q106, q107, q108, q109, q110, q111, q112, q113, q114, q115, q116, q117, q118, q119, q120, q121, q122, q123, q124, q125, q126, q127, q128, q129, q130, q131, q132, q133, q134, q135, q136, q137, q138, q139, q140, q141, q142, q143, q144, q145, q146, q147, q148, q149, q150, q151, q152, q153, q154, q155, q156, q157, q158, q159, q160, q161, q162, q163, q164, q165, q166, q167, q168, q169, q170, q171, q172, q173, q174, q175, q176, q177, q178, q179, q180, q181, q182, q183, q184, q185, q186, q187, q188, q189, q190, q191, q192, q193, q194, q195, q196, q197, q198, q199], []⟩ wx) : Code.wp Try.prog pl20_code Q ⟨#[q0, q1, q2, q3, q4, .pointer (some ⟨g, 0, none⟩), q6, q7, .int .i64 now, q9, q10, q11, q12, .pointer (some ⟨gm, 0, none⟩), q14, q15, q16, q17, q18, q19, q20, q21, q22, q23, q24, q25, q26, q27, q28, q29, q30, q31, q32, q33, q34, q35, q36, q37, q38, q39, q40, q41, q42, q43, q44, q45, q46, q47, q48, q49, q50, q51, q52, q53, q54, q55, q56, q57, q58, q59, q60, q61, q62, q63, q64, q65, q66, q67, q68, q69, q70, q71, q72, q73, q74, q75, q76, q77, q78, q79, q80, q81, q82, q83, q84, q85, q86, q87, q88, q89, q90, q91, q92, q93, q94, q95, q96, q97, q98, q99, q100, q101, q102, q103, q104, q105, q106, q107, q108, q109, q110, q111, q112, q113, q114, q115, q116, q117, q118, q119, q120, q121, q122, q123, q124, q125, q126, q127, q128, q129, q130, q131, q132, q133, q134, q135, q136, q137, q138, q139, q140, q141, q142, q143, q144, q145, q146, q147, q148, q149, q150, q151, q152, q153, q154, q155, q156, q157, q158, q159, q160, q161, q162, q163, q164, q165, q166, q167, q168, q169, q170, q171, q172, q173, q174, q175, q176, q177, q178, q179, q180, q181, q182, q183, q184, q185, q186, q187, q188, q189, q190, q191, q192, q193, q194, q195, q196, q197, q198, q199], []⟩ W := by
  obtain ⟨b0, b1, b2, b3, b4, b5, b6, b7, b8, b9, b10, b11, b12, b13⟩ := Blk.c14 SB.blk
  have sfz := SB.blk.frozen
  have hgl := SB.blk.lt
  obtain ⟨m0, m1, m2, m3, m4⟩ := Blk.c5 BM
  have hml := BM.lt
  have k := Lib.hid (jput_st s A l l.length c now m M m.pl.length mc W SB.q rfl (by omega) SB.cap SB.cm SB.wts (keys_small SB.q hks) rfl (by omega) hMI)
  have HRUN := Lib.hid hrun
  have HS := Lib.hid SB
  clear hrun hks SB BM hMI
  conv => arg 2; whnf
  go_wp2_with fail
  refine k.out.mono ?_
  rintro e wp hjr
  obtain ⟨A3, c3, l3, A4, c4, l4, rfl, h1, h2, h3, h4, h5, h6, hbp, hca, hcb⟩ := put_c HRUN.out hjr
  simp only [JL]
  have SBo := HS.out.later hbp
  have HSX := Lib.hid (SBo.store (s' := s1) h2 h5 h6 h4)
  have HKX := Lib.hid (Keeps.of hbp SBo (JL s1 A4 l4.length c4))
  have hwx : Wts (setRow g wp 0 (JL s1 A4 l4.length c4)) (setRow g wp 0 (JL s1 A4 l4.length c4)).heap.size A3 l3 := by rw [setRow_size]; exact h3.setRowNe SBo.blk (JL_no _ _ _ _) _
  have HWX := Lib.hid hwx
  have HM := Lib.hid h1
  have HCA := Lib.hid (And.intro hca hcb)
  clear hwx b0 b1 b2 b3 b4 b5 b6 b7 b8 b9 b10 b11 b12 b13 m0 m1 m2 m3 m4 sfz
  obtain ⟨z0, z1, z2, z3, z4, z5, z6, z7, z8, z9, z10, z11, z12, z13⟩ := Blk.c14 SBo.blk
  have sfz := SBo.blk.frozen
  have hgl2 := SBo.blk.lt
  clear SBo hbp hjr h1 h2 h3 h4 h5 h6 hca hcb
  obtain ⟨wx, hwx⟩ : ∃ W, W = setRow g wp 0 (JL s1 A4 l4.length c4) := ⟨_, rfl⟩
  rw [← hwx] at HSX HKX HWX
  simp only [JL, setRow, Nat.zero_add, Nat.reduceAdd] at hwx
  go_wp2_with fail
  rw [← hwx]
  exact h _ A3 c3 l3 A4 c4 l4 _ _ _ _ _ _ _ _ _ HM.out HWX HCA HKX HSX
end Go.Proofs.Ytnaafjdnmbajjaa

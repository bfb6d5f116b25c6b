/- Layer 30, JitterKnown: the law returns true. -/
import Derived.Test.YtnaafjdnmbajjaaJtKnPQ
import Derived.Test.YtnaafjdnmbajjaaJtLv5Q
namespace Go.Proofs.Ytnaafjdnmbajjaa.jitterKnown
open Go.RowKit
set_option linter.unusedVariables false
set_option linter.unusedSimpArgs false
attribute [local go_sem ↓] run_min_plain run_max_plain
attribute [local go_sem] setCell_drewN alloc_drewN
set_option maxRecDepth 100000 in
set_option maxHeartbeats 12800000 in
theorem walk (w : World) : Calls Try.prog 6 #[] w fun e w' => e = .returned (.bool true) ∧ Below w.heap.size w w' := by
  go_enter Try.func6, Try.ntmps6
  go_wp2_with fail
  refine (new_any 40 200 _).mono ?_
  rintro e w1 ⟨he, hb1⟩
  rw [lv_new] at he
  subst he
  simp only [JV, lv0]
  have U1 := Lib.hid hb1
  clear hb1
  go_wp2_with fail
  have SB0 : Hid (SBox (w1.alloc (.cells (JL lv0 none 0 0).toArray 26)) w1.heap.size lv0 none 0 []) := Lib.hid ⟨Blk.new w1 _ _, rfl, Nat.le_refl _, by unfold maxLen; omega, Wts.empty⟩
  have UW0 : Hid (Bel w (w1.alloc (.cells (JL lv0 none 0 0).toArray 26))) := Lib.hid (Bel.push U1.out _)
  have hgw := U1.out.size
  clear U1
  refine knr2_wp w _ w1.heap.size 0 lv0 ⟨40, 200, 1000, true, 1040, 800, 5, -1, 0, 900, [⟨1040, lvA⟩], 0, 0, 0⟩ none [] [] 1 0 SB0.out UW0.out hgw (by first | omega | simp) (fun x hx => by cases hx) kn_1 ?_
  rintro x1 P1 p1 y1 A1 c1 l1 u27 u28 u29 u30 u31 u32 u33 u34 hm1 HP1 KP1 SB1 UW1
  clear SB0 UW0 KP1 HP1 hm1
  have hl1 : l1.length ≤ 100 := by have h9 := congrArg List.length SB1.out.q; simp at h9; first | omega | simp [h9]
  go_wp2_with fail
  refine knr3_wp w _ w1.heap.size c1 ⟨40, 200, 1000, true, 1040, 800, 5, -1, 0, 900, [⟨1040, lvA⟩], 0, 0, 0⟩ ⟨40, 200, 1030, true, 1040, 800, 7, -1, 10, 890, [⟨1040, lvA⟩, ⟨1080, lvB⟩], 0, 0, 0⟩ A1 l1 [] 1 0 SB1.out UW1.out hgw (by first | omega | simp) (fun x hx => by simp at hx; subst hx; constructor <;> decide) kn_2 ?_
  rintro x2 P2 p2 y2 A2 c2 l2 u35 u36 u37 u38 u39 u40 u41 u42 hm2 HP2 KP2 SB2 UW2
  clear SB1 UW1 KP2 HP2 hm2
  have hl2 : l2.length ≤ 100 := by have h9 := congrArg List.length SB2.out.q; simp at h9; first | omega | simp [h9]
  try clear hl1
  go_wp2_with fail
  refine knr4_wp w _ w1.heap.size c2 ⟨40, 200, 1030, true, 1040, 800, 7, -1, 10, 890, [⟨1040, lvA⟩, ⟨1080, lvB⟩], 0, 0, 0⟩ ⟨40, 200, 1035, true, 1040, 800, 7, -1, 34, 915, [⟨1040, lvA⟩, ⟨1060, lvC⟩, ⟨1080, lvB⟩], 0, 0, 0⟩ A2 l2 [] 1 0 SB2.out UW2.out hgw (by first | omega | simp) (fun x hx => by simp at hx; rcases hx with rfl | rfl <;> (constructor <;> decide)) kn_3 ?_
  rintro x3 P3 p3 y3 A3 c3 l3 u43 u44 u45 u46 u47 u48 u49 u50 hm3 HP3 KP3 SB3 UW3
  clear SB2 UW2 KP3 HP3 hm3
  have hl3 : l3.length ≤ 100 := by have h9 := congrArg List.length SB3.out.q; simp at h9; first | omega | simp [h9]
  try clear hl2
  go_wp2_with fail
  refine knr5_wp w _ w1.heap.size c3 ⟨40, 200, 1035, true, 1040, 800, 7, -1, 34, 915, [⟨1040, lvA⟩, ⟨1060, lvC⟩, ⟨1080, lvB⟩], 0, 0, 0⟩ ⟨40, 200, 1036, true, 1040, 800, 7, -1, 34, 915, [⟨1040, lvA⟩, ⟨1060, lvC⟩, ⟨1080, lvB⟩], 0, 1, 0⟩ A3 l3 [] 3 0 SB3.out UW3.out hgw (by first | omega | simp) (fun x hx => by simp at hx; rcases hx with rfl | rfl | rfl <;> (constructor <;> decide)) kn_4 ?_
  rintro x4 P4 p4 y4 A4 c4 l4 u51 u52 u53 u54 u55 u56 u57 u58 hm4 HP4 KP4 SB4 UW4
  clear SB3 UW3 KP4 HP4 hm4
  have hl4 : l4.length ≤ 100 := by have h9 := congrArg List.length SB4.out.q; simp at h9; first | omega | simp [h9]
  try clear hl3
  have b0 : x4.cell? ⟨w1.heap.size, 0, none⟩ = some (.int .i64 40) := SB4.out.blk.at 0 _ rfl
  have b1 : x4.cell? ⟨w1.heap.size, 1, none⟩ = some (.int .i64 200) := SB4.out.blk.at 1 _ rfl
  have b2 : x4.cell? ⟨w1.heap.size, 2, none⟩ = some (.int .i64 1036) := SB4.out.blk.at 2 _ rfl
  have b3 : x4.cell? ⟨w1.heap.size, 3, none⟩ = some (.bool true) := SB4.out.blk.at 3 _ rfl
  have b4 : x4.cell? ⟨w1.heap.size, 4, none⟩ = some (.int .i64 1040) := SB4.out.blk.at 4 _ rfl
  have b5 : x4.cell? ⟨w1.heap.size, 5, none⟩ = some (.int .i64 800) := SB4.out.blk.at 5 _ rfl
  have b6 : x4.cell? ⟨w1.heap.size, 6, none⟩ = some (.int .i64 7) := SB4.out.blk.at 6 _ rfl
  have b7 : x4.cell? ⟨w1.heap.size, 7, none⟩ = some (.int .i64 (-1)) := SB4.out.blk.at 7 _ rfl
  have b8 : x4.cell? ⟨w1.heap.size, 8, none⟩ = some (.int .i64 34) := SB4.out.blk.at 8 _ rfl
  have b9 : x4.cell? ⟨w1.heap.size, 9, none⟩ = some (.int .i64 915) := SB4.out.blk.at 9 _ rfl
  have b10 : x4.cell? ⟨w1.heap.size, 10, none⟩ = some (.slice A4 l4.length c4) := SB4.out.blk.at 10 _ rfl
  have b11 : x4.cell? ⟨w1.heap.size, 11, none⟩ = some (.int .i64 0) := SB4.out.blk.at 11 _ rfl
  have b12 : x4.cell? ⟨w1.heap.size, 12, none⟩ = some (.int .i64 1) := SB4.out.blk.at 12 _ rfl
  have b13 : x4.cell? ⟨w1.heap.size, 13, none⟩ = some (.int .i64 0) := SB4.out.blk.at 13 _ rfl
  have hgl := SB4.out.blk.lt
  go_wp2_with fail
  refine (jrun_st ⟨40, 200, 1036, true, 1040, 800, 7, -1, 34, 915, [⟨1040, lvA⟩, ⟨1060, lvC⟩, ⟨1080, lvB⟩], 0, 1, 0⟩ A4 l4 l4.length c4 1060 _ SB4.out.q rfl (by omega) SB4.out.cap SB4.out.cm SB4.out.wts (keys_small SB4.out.q (fun x hx => by simp at hx; rcases hx with rfl | rfl | rfl <;> (constructor <;> decide)))).mono ?_
  rintro e x5 hjr
  obtain ⟨A9, c9, l9, A5, c5, l5, rfl, h1, h2, h3, h4, h5, h6, hb4⟩ := run_e kn_5 hjr
  simp only [JL]
  have SBo := SB4.out.later hb4
  have SB5 := Lib.hid (SBo.store (s' := ⟨40, 200, 1060, true, 1040, 800, 7, 6, 34, 915, [⟨1080, lvB⟩], 0, 1, 2⟩) h2 h5 h6 h4)
  have UWx : Bel w (setRow w1.heap.size x5 0 (JL ⟨40, 200, 1060, true, 1040, 800, 7, 6, 34, 915, [⟨1080, lvB⟩], 0, 1, 2⟩ A5 l5.length c5)) := below_setRow hgw _ x5 0 (UW4.out.later hb4)
  have UW5 := Lib.hid UWx
  clear UWx
  have HL := Lib.hid ((h3.setRowNe SBo.blk (JL_no _ _ _ _) (JL ⟨40, 200, 1060, true, 1040, 800, 7, 6, 34, 915, [⟨1080, lvB⟩], 0, 1, 2⟩ A5 l5.length c5)).fit)
  have HLM := Lib.hid h1
  have hl9 : l9.length = 2 := by have h9 := congrArg List.length h1; simpa using h9
  rw [hl9]
  have HL9 := Lib.hid hl9
  clear hl9
  have hl5 : l5.length ≤ 100 := by have h9 := congrArg List.length h2; simp at h9; omega
  have sfz := SBo.blk.frozen
  clear b0 b1 b2 b3 b4 b5 b6 b7 b8 b9 b10 b11 b12 b13
  obtain ⟨b0, b1, b2, b3, b4, b5, b6, b7, b8, b9, b10, b11, b12, b13⟩ := Blk.c14 SBo.blk
  have hg2 := SBo.blk.lt
  clear SB4 UW4 SBo hb4 hjr h1 h2 h3 h4 h5 h6 hgl
  obtain ⟨W5, hW5⟩ : ∃ W, W = setRow w1.heap.size x5 0 (JL ⟨40, 200, 1060, true, 1040, 800, 7, 6, 34, 915, [⟨1080, lvB⟩], 0, 1, 2⟩ A5 l5.length c5) := ⟨_, rfl⟩
  rw [← hW5] at SB5 UW5 HL
  simp only [JL, setRow, Nat.zero_add, Nat.reduceAdd] at hW5
  go_wp2_with fail
  rw [← hW5]
  clear hW5 sfz hg2 b0 b1 b2 b3 b4 b5 b6 b7 b8 b9 b10 b11 b12 b13
  refine knr7_wp w _ w1.heap.size c5 ⟨40, 200, 1060, true, 1040, 800, 7, 6, 34, 915, [⟨1080, lvB⟩], 0, 1, 2⟩ ⟨40, 200, 1061, true, 1040, 800, 7, 6, 34, 915, [⟨1080, lvB⟩], 1, 1, 2⟩ A5 l5 [] 2 0 SB5.out UW5.out hgw (by first | omega | simp) (fun x hx => by simp at hx; subst hx; constructor <;> decide) kn_6 ?_
  rintro x6 P6 p6 y6 A6 c6 l6 u65 u66 u67 u68 u69 u70 u71 u72 hm6 HP6 KP6 SB6 UW6
  replace HL := Lib.hid ((KP6.out _ _ _ (Nat.le_refl _) HL.out).fit)
  clear SB5 UW5 KP6 HP6 hm6
  have hl6 : l6.length ≤ 100 := by have h9 := congrArg List.length SB6.out.q; simp at h9; first | omega | simp [h9]
  try clear hl5
  go_wp2_with fail
  refine knr8_wp w _ w1.heap.size c6 ⟨40, 200, 1061, true, 1040, 800, 7, 6, 34, 915, [⟨1080, lvB⟩], 1, 1, 2⟩ ⟨40, 200, 1100, true, 1040, 800, 8, 7, 57, 940, [], 2, 1, 3⟩ A6 l6 [⟨1080, lvB⟩] 2 0 SB6.out UW6.out hgw (by first | omega | simp) (fun x hx => by simp at hx; subst hx; constructor <;> decide) kn_7 ?_
  rintro x7 P7 p7 y7 A7 c7 l7 u73 u74 u75 u76 u77 u78 u79 u80 hm7 HP7 KP7 SB7 UW7
  replace HL := Lib.hid ((KP7.out _ _ _ (Nat.le_refl _) HL.out).fit)
  clear SB6 UW6 KP7
  have HK := HP7
  have HKM := Lib.hid hm7
  have hk9 : y7.length = 1 := by have h9 := congrArg List.length hm7; simpa using h9
  rw [hk9]
  have HK9 := Lib.hid hk9
  clear HP7 hm7 hk9
  have hl7 : l7.length ≤ 100 := by have h9 := congrArg List.length SB7.out.q; simp at h9; first | omega | simp [h9]
  try clear hl6
  have b0 : x7.cell? ⟨w1.heap.size, 0, none⟩ = some (.int .i64 40) := SB7.out.blk.at 0 _ rfl
  have b1 : x7.cell? ⟨w1.heap.size, 1, none⟩ = some (.int .i64 200) := SB7.out.blk.at 1 _ rfl
  have b2 : x7.cell? ⟨w1.heap.size, 2, none⟩ = some (.int .i64 1100) := SB7.out.blk.at 2 _ rfl
  have b3 : x7.cell? ⟨w1.heap.size, 3, none⟩ = some (.bool true) := SB7.out.blk.at 3 _ rfl
  have b4 : x7.cell? ⟨w1.heap.size, 4, none⟩ = some (.int .i64 1040) := SB7.out.blk.at 4 _ rfl
  have b5 : x7.cell? ⟨w1.heap.size, 5, none⟩ = some (.int .i64 800) := SB7.out.blk.at 5 _ rfl
  have b6 : x7.cell? ⟨w1.heap.size, 6, none⟩ = some (.int .i64 8) := SB7.out.blk.at 6 _ rfl
  have b7 : x7.cell? ⟨w1.heap.size, 7, none⟩ = some (.int .i64 7) := SB7.out.blk.at 7 _ rfl
  have b8 : x7.cell? ⟨w1.heap.size, 8, none⟩ = some (.int .i64 57) := SB7.out.blk.at 8 _ rfl
  have b9 : x7.cell? ⟨w1.heap.size, 9, none⟩ = some (.int .i64 940) := SB7.out.blk.at 9 _ rfl
  have b10 : x7.cell? ⟨w1.heap.size, 10, none⟩ = some (.slice A7 l7.length c7) := SB7.out.blk.at 10 _ rfl
  have b11 : x7.cell? ⟨w1.heap.size, 11, none⟩ = some (.int .i64 2) := SB7.out.blk.at 11 _ rfl
  have b12 : x7.cell? ⟨w1.heap.size, 12, none⟩ = some (.int .i64 1) := SB7.out.blk.at 12 _ rfl
  have b13 : x7.cell? ⟨w1.heap.size, 13, none⟩ = some (.int .i64 3) := SB7.out.blk.at 13 _ rfl
  have hgl := SB7.out.blk.lt
  go_wp2_with fail
  refine (jput_st ⟨40, 200, 1100, true, 1040, 800, 8, 7, 57, 940, [], 2, 1, 3⟩ A7 l7 l7.length c7 2000 knM none 0 0 _ SB7.out.q rfl (by omega) SB7.out.cap SB7.out.cm SB7.out.wts (keys_small SB7.out.q (fun x hx => by cases hx)) rfl (by omega) IntsAt.nil).mono ?_
  rintro e x8 hjr
  obtain ⟨AX, cX, lX, A8, c8, l8, rfl, h1, h2, h3, h4, h5, h6, hb4⟩ := put_e kn_8 hjr
  simp only [JL]
  have SBo := SB7.out.later hb4
  have SB8 := Lib.hid (SBo.store (s' := ⟨40, 200, 2000, true, 2068, 8000, 9, 7, 113, 1000, [⟨2068, knM⟩], 2, 1, 3⟩) h2 h5 h6 h4)
  have UWx : Bel w (setRow w1.heap.size x8 0 (JL ⟨40, 200, 2000, true, 2068, 8000, 9, 7, 113, 1000, [⟨2068, knM⟩], 2, 1, 3⟩ A8 l8.length c8)) := below_setRow hgw _ x8 0 (UW7.out.later hb4)
  have UW8 := Lib.hid UWx
  clear UWx
  replace HL := Lib.hid (((HL.out.later hb4).setRowNe SBo.blk (JL_no _ _ _ _) (JL ⟨40, 200, 2000, true, 2068, 8000, 9, 7, 113, 1000, [⟨2068, knM⟩], 2, 1, 3⟩ A8 l8.length c8)).fit)
  replace HK := Lib.hid (((HK.out.later hb4).setRowNe SBo.blk (JL_no _ _ _ _) (JL ⟨40, 200, 2000, true, 2068, 8000, 9, 7, 113, 1000, [⟨2068, knM⟩], 2, 1, 3⟩ A8 l8.length c8)).fit)
  have hl8 : l8.length ≤ 100 := by have h9 := congrArg List.length h2; simp at h9; omega
  have sfz := SBo.blk.frozen
  clear b0 b1 b2 b3 b4 b5 b6 b7 b8 b9 b10 b11 b12 b13
  obtain ⟨b0, b1, b2, b3, b4, b5, b6, b7, b8, b9, b10, b11, b12, b13⟩ := Blk.c14 SBo.blk
  have hg2 := SBo.blk.lt
  clear SB7 UW7 SBo hb4 hjr h1 h2 h3 h4 h5 h6 hgl
  obtain ⟨W8, hW8⟩ : ∃ W, W = setRow w1.heap.size x8 0 (JL ⟨40, 200, 2000, true, 2068, 8000, 9, 7, 113, 1000, [⟨2068, knM⟩], 2, 1, 3⟩ A8 l8.length c8) := ⟨_, rfl⟩
  rw [← hW8] at SB8 UW8 HL HK
  simp only [JL, setRow, Nat.zero_add, Nat.reduceAdd] at hW8
  go_wp2_with fail
  rw [← hW8]
  clear hW8 sfz hg2 b0 b1 b2 b3 b4 b5 b6 b7 b8 b9 b10 b11 b12 b13
  refine (new_any 0 5 _).mono ?_
  rintro e v1 ⟨he, hb⟩
  rw [kn_new] at he
  subst he
  simp only [JV, Jb.Jt.none]
  replace SB8 := Lib.hid ((SB8.out.later hb).push (.cells #[.int .i64 0, .int .i64 0, .int .i64 0, .bool false, .int .i64 0, .int .i64 0, .int .i64 0, .int .i64 0, .int .i64 0, .int .i64 0, .slice none 0 0, .int .i64 0, .int .i64 0, .int .i64 0] 26))
  replace UW8 := Lib.hid (Bel.push (UW8.out.later hb) (.cells #[.int .i64 0, .int .i64 0, .int .i64 0, .bool false, .int .i64 0, .int .i64 0, .int .i64 0, .int .i64 0, .int .i64 0, .int .i64 0, .slice none 0 0, .int .i64 0, .int .i64 0, .int .i64 0] 26))
  replace HL := Lib.hid ((HL.out.later hb).push (.cells #[.int .i64 0, .int .i64 0, .int .i64 0, .bool false, .int .i64 0, .int .i64 0, .int .i64 0, .int .i64 0, .int .i64 0, .int .i64 0, .slice none 0 0, .int .i64 0, .int .i64 0, .int .i64 0] 26))
  replace HK := Lib.hid ((HK.out.later hb).push (.cells #[.int .i64 0, .int .i64 0, .int .i64 0, .bool false, .int .i64 0, .int .i64 0, .int .i64 0, .int .i64 0, .int .i64 0, .int .i64 0, .slice none 0 0, .int .i64 0, .int .i64 0, .int .i64 0] 26))
  clear hb
  go_wp2_with fail
  refine (media_any 5 800 _).mono ?_
  rintro e v2 ⟨rfl, hb⟩
  replace SB8 := Lib.hid (SB8.out.later hb)
  replace UW8 := Lib.hid (UW8.out.later hb)
  replace HL := Lib.hid (HL.out.later hb)
  replace HK := Lib.hid (HK.out.later hb)
  clear hb
  go_wp2_with fail
  refine (media_any 6 960 _).mono ?_
  rintro e v3 ⟨rfl, hb⟩
  replace SB8 := Lib.hid (SB8.out.later hb)
  replace UW8 := Lib.hid (UW8.out.later hb)
  replace HL := Lib.hid (HL.out.later hb)
  replace HK := Lib.hid (HK.out.later hb)
  clear hb
  go_wp2_with fail
  refine (rsw_any A9 (some ⟨v3.heap.size, 0, none⟩) l9 [⟨⟨1040, lvA⟩, none, 0⟩, ⟨⟨1060, lvC⟩, none, 0⟩] 2 c9 2 _ HL9.out HLM.out (by omega) (HL.out.push _) ⟨RowsAt.lit0 v3 50 TW.row _ _ (by rfl) row_len, fun a ha => by simp at ha; rcases ha with rfl | rfl <;> exact IntsAt.nil⟩).mono ?_
  rintro e v4 ⟨rfl, hb⟩
  replace SB8 := Lib.hid ((SB8.out.push _).later hb)
  replace UW8 := Lib.hid ((Bel.push UW8.out _).later hb)
  replace HL := Lib.hid ((HL.out.push _).later hb)
  replace HK := Lib.hid ((HK.out.push _).later hb)
  clear hb
  go_wp2_with fail
  refine (media_any 7 1120 _).mono ?_
  rintro e v5 ⟨rfl, hb⟩
  replace SB8 := Lib.hid (SB8.out.later hb)
  replace UW8 := Lib.hid (UW8.out.later hb)
  replace HL := Lib.hid (HL.out.later hb)
  replace HK := Lib.hid (HK.out.later hb)
  clear hb
  go_wp2_with fail
  refine (rsw_any P7 (some ⟨v5.heap.size, 0, none⟩) y7 [⟨⟨1080, lvB⟩, none, 0⟩] 1 p7 1 _ HK9.out HKM.out (by omega) (HK.out.push _) ⟨RowsAt.lit0 v5 50 TW.row _ _ (by rfl) row_len, fun a ha => by simp at ha; rcases ha with rfl <;> exact IntsAt.nil⟩).mono ?_
  rintro e v6 ⟨rfl, hb⟩
  replace SB8 := Lib.hid ((SB8.out.push _).later hb)
  replace UW8 := Lib.hid ((Bel.push UW8.out _).later hb)
  replace HL := Lib.hid ((HL.out.push _).later hb)
  replace HK := Lib.hid ((HK.out.push _).later hb)
  clear hb
  have b8 : v6.cell? ⟨w1.heap.size, 8, none⟩ = some (.int .i64 113) := SB8.out.blk.at 8 _ rfl
  have b4 : v6.cell? ⟨w1.heap.size, 4, none⟩ = some (.int .i64 2068) := SB8.out.blk.at 4 _ rfl
  have b11 : v6.cell? ⟨w1.heap.size, 11, none⟩ = some (.int .i64 2) := SB8.out.blk.at 11 _ rfl
  have b12 : v6.cell? ⟨w1.heap.size, 12, none⟩ = some (.int .i64 1) := SB8.out.blk.at 12 _ rfl
  have b13 : v6.cell? ⟨w1.heap.size, 13, none⟩ = some (.int .i64 3) := SB8.out.blk.at 13 _ rfl
  go_wp2_with fail
  refine (lives_any _).mono ?_
  rintro e v7 ⟨rfl, hb⟩
  replace UW8 := Lib.hid (UW8.out.later hb)
  clear hb
  go_wp2_with fail
  go_ret
  exact ⟨by first | rfl | simp, UW8.out⟩
end Go.Proofs.Ytnaafjdnmbajjaa.jitterKnown

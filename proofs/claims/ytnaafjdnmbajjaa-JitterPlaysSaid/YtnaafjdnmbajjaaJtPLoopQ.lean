/- Layer 30, JitterPlays: the loop over what is awaited. -/
import Derived.Test.YtnaafjdnmbajjaaJtLInsQ
import Derived.Test.YtnaafjdnmbajjaaJtPutSQ
import Derived.Deep.RegionHeld3
import Derived.Test.YtnaafjdnmbajjaaJtSmall
namespace Go.Proofs.Ytnaafjdnmbajjaa
open Go.RowKit
set_option linter.unusedVariables false
set_option linter.unusedSimpArgs false
attribute [local go_sem ↓] run_min_plain run_max_plain
attribute [local go_sem] setCell_drewN alloc_drewN
noncomputable def ploop_code : Code := ((Try.f8.body.bind (findBlkN 2)).getD .skip)
set_option maxRecDepth 100000 in
set_option maxHeartbeats 12800000 in
theorem ploop_wp {q0 q1 q2 q3 q4 q5 q6 q9 q11 q12 q13 q17 q18 q19 q20 q21 q22 q23 q24 q25 q26 q27 q28 q29 q30 q31 q32 q33 q34 q35 q36 q37 q38 q39 q40 q41 q42 q43 q44 q45 q46 q47 q48 q49 q50 q51 q52 q53 q54 q55 q56 q57 q58 q59 q60 q61 q62 q63 q64 q65 q66 q67 q68 q69 q70 q71 q72 q73 q74 q75 q76 q77 q78 q79 q80 q81 q82 q83 q84 q85 q86 q87 q88 q89 q90 q91 q92 q93 q94 q95 q96 q97 q98 q99 q100 q101 q102 q103 q104 q105 q106 q107 q108 q109 q110 q111 q112 q113 q114 q115 q116 q117 q118 q119 q120 q121 q122 q123 q124 q125 q126 q127 q128 q129 q130 q131 q132 q133 q134 q135 q136 q137 q138 q139 q140 q141 q142 q143 q144 q145 q146 q147 q148 q149 q150 q151 q152 q153 q154 q155 q156 q157 q158 q159 q160 q161 q162 q163 q164 q165 q166 q167 q168 q169 q170 q171 q172 q173 q174 q175 q176 q177 q178 q179 q180 q181 q182 q183 q184 q185 q186 q187 q188 q189 q190 q191 q192 q193 q194 q195 q196 q197 q198 q199 : Value} {Q : Exit → Act → World → Prop} (W : World) (AD AP : Option Addr) (D P : List TW) (cD cP : Nat) (now : Int) (hD : Wts W W.heap.size AD D) (hP : Wts W W.heap.size AP P) (hPD : P.map TW.w = Jb.due now (D.map TW.w)) (hs : (D.map TW.w).Pairwise Jb.bef) (hDl : D.length ≤ 1000) (hcD : D.length ≤ cD) (hmD : cD ≤ maxLen) (hcP : P.length ≤ cP) (hmP : cP ≤ maxLen)
    (h : ∀ (wx : World) (A' : Option Addr) (c' : Nat) (u4 u105 u106 u107 u108 u109 u110 u111 u112 u113 u114 u115 u116 u117 u118 u119 u120 u121 u122 u123 u124 u125 u126 u127 u128 u129 u130 u131 u132 u133 u134 u135 u136 u137 u138 u139 u140 u141 u142 u143 u144 : Value), Hid (Wts wx wx.heap.size A' (D.drop P.length)) → Hid (D.length - P.length ≤ c' ∧ c' ≤ maxLen) → Hid (Below W.heap.size W wx) → Q .normal ⟨#[q0, q1, q2, q3, u4, q5, q6, .slice AD D.length cD, .int .i64 now, q9, .slice AP P.length cP, q11, q12, q13, .slice A' (D.length - P.length) c', .int .i64 (P.length : Int), .int .i64 (D.length : Int), q17, q18, q19, q20, q21, q22, q23, q24, q25, q26, q27, q28, q29, q30, q31, q32, q33, q34, q35, q36, q37, q38, q39, q40, q41, q42, q43, q44, q45, q46, q47, q48, q49, q50, q51, q52, q53, q54, q55, q56, q57, q58, q59, q60, q61, q62, q63, q64, q65, q66, q67, q68, q69, q70, q71, q72, q73, q74, q75, q76, q77, q78, q79, q80, q81, q82, q83, q84, q85, q86, q87, q88, q89, q90, q91, q92, q93, q94, q95, q96, q97, q98, q99, q100, q101, q102, q103, q104, u105, u106, u107, u108, u109, u110, u111, u112, u113, u114, u115, u116, u117, u118, u119, u120, u121, u122, u123, u124, u125, u126, u127, u128, u129, u130, u131, u132, u133, u134, u135, u136, u137, u138, u139, u140, u141, u142, u143, u144, q145, q146, q147, q148, q149, q150, q151, q152, q153, q154, q155, q156, q157, q158, q159, q160, q161, q162, q163, q164, q165, q166, q167, q168, q169, q170, q171, q172, q173, q174, q175, q176, q177, q178, q179, q180, q181, q182, q183, q184, q185, q186, q187, q188, q189, q190, q191, q192, q193, q194, q195, q196, q197, q198, q199], []⟩ wx) : Code.wp Try.prog ploop_code Q ⟨#[q0, q1, q2, q3, q4, q5, q6, .slice AD D.length cD, .int .i64 now, q9, .slice AP P.length cP, q11, q12, q13, .slice none 0 0, .int .i64 0, .int .i64 0, q17, q18, q19, q20, q21, q22, q23, q24, q25, q26, q27, q28, q29, q30, q31, q32, q33, q34, q35, q36, q37, q38, q39, q40, q41, q42, q43, q44, q45, q46, q47, q48, q49, q50, q51, q52, q53, q54, q55, q56, q57, q58, q59, q60, q61, q62, q63, q64, q65, q66, q67, q68, q69, q70, q71, q72, q73, q74, q75, q76, q77, q78, q79, q80, q81, q82, q83, q84, q85, q86, q87, q88, q89, q90, q91, q92, q93, q94, q95, q96, q97, q98, q99, q100, q101, q102, q103, q104, q105, q106, q107, q108, q109, q110, q111, q112, q113, q114, q115, q116, q117, q118, q119, q120, q121, q122, q123, q124, q125, q126, q127, q128, q129, q130, q131, q132, q133, q134, q135, q136, q137, q138, q139, q140, q141, q142, q143, q144, q145, q146, q147, q148, q149, q150, q151, q152, q153, q154, q155, q156, q157, q158, q159, q160, q161, q162, q163, q164, q165, q166, q167, q168, q169, q170, q171, q172, q173, q174, q175, q176, q177, q178, q179, q180, q181, q182, q183, q184, q185, q186, q187, q188, q189, q190, q191, q192, q193, q194, q195, q196, q197, q198, q199], []⟩ W := by
  have hN : (Jb.due now (D.map TW.w)).length = P.length := by rw [← hPD, List.length_map]
  have hPDl : P.length ≤ D.length := by rw [← hN]; have := (dl_len now (D.map TW.w)).1; simpa using this
  have HDU := Lib.hid fun (k : Nat) (a : Jb.Wt) (ha : (D.map TW.w)[k]? = some a) => due_iff (now := now) hs ha
  have HN := Lib.hid hN
  have HPD := Lib.hid hPD
  have HD := Lib.hid hD
  have HP := Lib.hid hP
  unfold maxLen at hmD hmP
  clear hN hPD hs hD hP
  conv => arg 2; whnf
  go_wp2_with fail
  go_loopg [14, 15, 16] D.length (fun gk s14 s15 s16 wr => ∃ (k n r : Nat) (A : Option Addr) (c : Nat), gk + k = D.length ∧ n + r = k ∧ n ≤ P.length ∧ (r = 0 ∨ n = P.length) ∧ s14 = .slice A r c ∧ s15 = .int .i64 n ∧ s16 = .int .i64 k ∧ Hid (Owns wr W.heap.size 50 6 A r c (((D.take k).drop P.length).flatMap TW.row)) ∧ Hid (Below W.heap.size W wr))
  case atStart => exact ⟨0, 0, 0, none, 0, by omega, rfl, Nat.zero_le _, .inl rfl, rfl, rfl, rfl, Lib.hid (by simpa using Owns.nil), Lib.hid (Below.refl _ _)⟩
  case round =>
    obtain ⟨k, n, r, A, c, hgk, hnr, hnP, hor, rfl, rfl, rfl, HO, HB⟩ := hrel
    have hi0 : (0 : Int) ≤ (k : Int) := by omega
    by_cases hk : k < D.length
    rotate_left
    · obtain rfl : k = D.length := by omega
      obtain rfl : n = P.length := by omega
      obtain rfl : r = D.length - P.length := by omega
      have hi1 : (D.length : Int) ≤ (D.length : Int) := Int.le_refl _
      have HW : Hid (Wts wr wr.heap.size A (D.drop P.length)) := Lib.hid (by
        have h9 := HO.out
        rw [List.take_length] at h9
        exact ⟨Owns.rows h9 (by simp) (fun a => rfl), fun a ha => ((HD.out.2 a (List.mem_of_mem_drop ha)).keep (fun p hp => HB.out.cell hp)).more HB.out.size⟩)
      have HCP : Hid (D.length - P.length ≤ c ∧ c ≤ maxLen) := Lib.hid ⟨HO.out.cap, Owns.capm HO.out⟩
      go_wp2_with fail
      first
        | exact ⟨HW, HCP, HB⟩
        | exact h _ _ _ _ _ _ _ _ _ _ _ _ _ _ _ _ _ _ _ _ _ _ _ _ _ _ _ _ _ _ _ _ _ _ _ _ _ _ _ _ _ _ _ _ HW HCP HB
    have hi1 : (k : Int) < (D.length : Int) := by omega
    obtain ⟨a, ha⟩ : ∃ a, D[k]? = some a := ⟨_, List.getElem?_eq_getElem hk⟩
    obtain ⟨b, off, rfl, hbB, e0, e1, e2, e3, e4, e5⟩ := rowsW (HD.out.1.keep (fun p hp => HB.out.cell hp)) ha
    have hm : (D.map TW.w)[k]? = some a.w := by rw [List.getElem?_map, ha]; rfl
    have hdu := HDU.out k a.w hm
    rw [HN.out] at hdu
    have HDK := Lib.hid hdu
    have HA := Lib.hid ha
    have HM := Lib.hid hm
    have hws := HB.out.size
    by_cases hkP : P.length ≤ k
    · have hat := HDK.out.2 hkP
      obtain rfl : n = P.length := by omega
      have HTK : Hid ((D.take (k + 1)).drop P.length = (D.take k).drop P.length ++ [a]) := Lib.hid (by rw [List.take_add_one, ha, List.drop_append_of_le_length (by simp; omega)]; rfl)
      obtain ⟨⟨at0, ⟨sq0, ti0, mk0, ty0, pl0⟩⟩, B0, c0⟩ := a
      simp only at e0 e1 e2 e3 e4 e5 hat
      have h5 : (r + 1) * 56 ≤ 140737488355328 := by omega
      have h6 : r + 1 ≤ maxLen := by unfold maxLen; omega
      clear ha hm hdu
      go_upto_region 29 with fail
      go_wp2_with (at_builtin; go_loud (refine wpList_append_at (w0 := wr) rfl _ _ 24 rfl W.heap.size 50 6 56 _ Try.underlying24 info_w rfl (by decide) A r c _ rfl HO.out [.int .i64 at0, .int .i64 sq0, .int .i64 ti0, .bool mk0, .int .u8 ty0, .slice B0 pl0.length c0] rfl (by simp [Value.oneCell']) rfl h6 h5 hws ?_); intro An cn wn hown hgr hat2)
      go_roundg (gk - 1)
      case measure => omega
      case rel => exact ⟨k + 1, P.length, r + 1, An, cn, by omega, by omega, Nat.le_refl _, .inr rfl, rfl, rfl, by go_num, Lib.hid (by rw [HTK.out, List.flatMap_append]; simpa [TW.row] using hown), Lib.hid (HB.out.grown hgr hws (fun g e => (HO.out.block g e).1))⟩
    obtain ⟨hat, hdk⟩ := HDK.out.1 (by omega)
    obtain rfl : r = 0 := by omega
    obtain rfl : n = k := by omega
    have hnP2 : n < P.length := by omega
    obtain ⟨x, hx⟩ : ∃ x, P[n]? = some x := ⟨_, List.getElem?_eq_getElem hnP2⟩
    obtain ⟨bp, op, hAP, hbP, p0, p1, p2, p3, p4, p5⟩ := rowsW HP.out.1 hx
    subst hAP
    have hxa : x.w = a.w := by
      have h9 : (P.map TW.w)[n]? = some x.w := by rw [List.getElem?_map, hx]; rfl
      rw [HPD.out, hdk] at h9
      injection h9 with h9
      exact h9.symm
    have HXA := Lib.hid hxa
    have k2 := Lib.hid fun (V : World) (hb : Below W.heap.size W V) => rsw_any (some ⟨bp, op + n * 6, none⟩) (some ⟨b, off + n * 6, none⟩) [x] [a] 1 (cP - n) (cD - n) V rfl (by simp [HXA.out]) (by omega) (((HP.out.one hx).keep (fun p hp => hb.cell hp)).more hb.size) (((HD.out.one ha).keep (fun p hp => hb.cell hp)).more hb.size)
    have hd1 : decide ((P.length : Int) ≤ (n : Int)) = false := by rw [decide_eq_false_iff_not]; omega
    have hd2 : decide (P.length ≤ n) = false := by rw [decide_eq_false_iff_not]; omega
    have HD1 := Lib.hid hd1
    have HD2 := Lib.hid hd2
    have v1 : IntKind.i64.wrap ((n : Int) + 1) = (n : Int) + 1 := i64_small _ (by omega) (by omega)
    have v2 : ((n : Int) + 1).toNat = n + 1 := by omega
    have v3 : n + 1 - n = 1 := by omega
    have v4 : (n : Int) ≤ (cP : Int) := by omega
    have v5 : (n : Int) ≤ (cD : Int) := by omega
    have v6 : (n : Int) + 1 ≤ (cP : Int) := by omega
    have v7 : (n : Int) + 1 ≤ (cD : Int) := by omega
    have v8 : ¬cP = n := by omega
    have v9 : ¬cD = n := by omega
    have v10 : (0 : Int) ≤ (n : Int) + 1 := by omega
    have hU : Below W.heap.size W wr := HB.out
    have hTK : ((D.take (n + 1)).drop P.length).flatMap TW.row = [] := by rw [List.drop_of_length_le (by simp; omega)]; rfl
    have hTK0 : ((D.take n).drop P.length).flatMap TW.row = [] := by rw [List.drop_of_length_le (by simp; omega)]; rfl
    have HTK := Lib.hid hTK
    have HTK0 := Lib.hid hTK0
    obtain ⟨at0, hat0⟩ : ∃ z, z = a.w.at_ := ⟨_, rfl⟩
    rw [← hat0] at e0 hat
    clear ha hm hdu hx hxa hdk hd1 hd2 hTK hTK0 hat0 e1 e2 e3 e4 e5 p0 p1 p2 p3 p4 p5
    go_upto_region 30 with fail
    clear e0
    refine wp_region_noPanic ?_
    refine wp_region_held_drew (S := fun w' => Below W.heap.size W w') (by kernel_rfl) ?_ (fun hHeld => ?_)
    · (first | assumption | (with_reducible first | exact below_old' (by assumption) (by assumption) | exact Below.drew (by assumption)))
    first
      | (refine tk1 (i := 0) (v := ?_) rfl (Or.inl ⟨by rfl, ?_⟩) (by assumption) ?_
         rotate_left
         · (intro w hSw; (try dsimp only at hSw); go_simp; try with_reducible rfl))
      | refine tk1 (i := 0) (v := undef) rfl (Or.inr ⟨by rfl, rfl⟩) (by assumption) ?_
    try simp only [List.getElem_toArray, List.getElem_cons_zero, List.getElem_cons_succ, Act.put, List.setIfInBounds_toArray, List.set_cons_zero, List.set_cons_succ, HD1.out, HD2.out]
    first
      | (refine tk1 (i := 1) (v := ?_) rfl (Or.inl ⟨by rfl, ?_⟩) (by assumption) ?_
         rotate_left
         · (intro w hSw; (try dsimp only at hSw); go_simp; try with_reducible rfl))
      | refine tk1 (i := 1) (v := undef) rfl (Or.inr ⟨by rfl, rfl⟩) (by assumption) ?_
    try simp only [List.getElem_toArray, List.getElem_cons_zero, List.getElem_cons_succ, Act.put, List.setIfInBounds_toArray, List.set_cons_zero, List.set_cons_succ, HD1.out, HD2.out]
    first
      | (refine tk1 (i := 2) (v := ?_) rfl (Or.inl ⟨by rfl, ?_⟩) (by assumption) ?_
         rotate_left
         · (intro w hSw; (try dsimp only at hSw); go_simp; try with_reducible rfl))
      | refine tk1 (i := 2) (v := undef) rfl (Or.inr ⟨by rfl, rfl⟩) (by assumption) ?_
    try simp only [List.getElem_toArray, List.getElem_cons_zero, List.getElem_cons_succ, Act.put, List.setIfInBounds_toArray, List.set_cons_zero, List.set_cons_succ, HD1.out, HD2.out]
    first
      | (refine tk1 (i := 3) (v := ?_) rfl (Or.inl ⟨by rfl, ?_⟩) (by assumption) ?_
         rotate_left
         · (intro w hSw; (try dsimp only at hSw); go_simp; try with_reducible rfl))
      | refine tk1 (i := 3) (v := undef) rfl (Or.inr ⟨by rfl, rfl⟩) (by assumption) ?_
    try simp only [List.getElem_toArray, List.getElem_cons_zero, List.getElem_cons_succ, Act.put, List.setIfInBounds_toArray, List.set_cons_zero, List.set_cons_succ, HD1.out, HD2.out]
    first
      | (refine tk1 (i := 4) (v := ?_) rfl (Or.inl ⟨by rfl, ?_⟩) (by assumption) ?_
         rotate_left
         · (intro w hSw; (try dsimp only at hSw); go_simp; try with_reducible rfl))
      | refine tk1 (i := 4) (v := undef) rfl (Or.inr ⟨by rfl, rfl⟩) (by assumption) ?_
    try simp only [List.getElem_toArray, List.getElem_cons_zero, List.getElem_cons_succ, Act.put, List.setIfInBounds_toArray, List.set_cons_zero, List.set_cons_succ, HD1.out, HD2.out]
    first
      | (refine tk1 (i := 5) (v := ?_) rfl (Or.inl ⟨by rfl, ?_⟩) (by assumption) ?_
         rotate_left
         · (intro w hSw; (try dsimp only at hSw); go_simp; try with_reducible rfl))
      | refine tk1 (i := 5) (v := undef) rfl (Or.inr ⟨by rfl, rfl⟩) (by assumption) ?_
    try simp only [List.getElem_toArray, List.getElem_cons_zero, List.getElem_cons_succ, Act.put, List.setIfInBounds_toArray, List.set_cons_zero, List.set_cons_succ, HD1.out, HD2.out]
    first
      | (refine tk1 (i := 6) (v := ?_) rfl (Or.inl ⟨by rfl, ?_⟩) (by assumption) ?_
         rotate_left
         · (intro w hSw; (try dsimp only at hSw); go_simp; try with_reducible rfl))
      | refine tk1 (i := 6) (v := undef) rfl (Or.inr ⟨by rfl, rfl⟩) (by assumption) ?_
    try simp only [List.getElem_toArray, List.getElem_cons_zero, List.getElem_cons_succ, Act.put, List.setIfInBounds_toArray, List.set_cons_zero, List.set_cons_succ, HD1.out, HD2.out]
    first
      | (refine tk1 (i := 7) (v := ?_) rfl (Or.inl ⟨by rfl, ?_⟩) (by assumption) ?_
         rotate_left
         · (intro w hSw; (try dsimp only at hSw); go_simp; try with_reducible rfl))
      | refine tk1 (i := 7) (v := undef) rfl (Or.inr ⟨by rfl, rfl⟩) (by assumption) ?_
    try simp only [List.getElem_toArray, List.getElem_cons_zero, List.getElem_cons_succ, Act.put, List.setIfInBounds_toArray, List.set_cons_zero, List.set_cons_succ, HD1.out, HD2.out]
    first
      | (refine tk1 (i := 8) (v := ?_) rfl (Or.inl ⟨by rfl, ?_⟩) (by assumption) ?_
         rotate_left
         · (intro w hSw; (try dsimp only at hSw); go_simp; try with_reducible rfl))
      | refine tk1 (i := 8) (v := undef) rfl (Or.inr ⟨by rfl, rfl⟩) (by assumption) ?_
    try simp only [List.getElem_toArray, List.getElem_cons_zero, List.getElem_cons_succ, Act.put, List.setIfInBounds_toArray, List.set_cons_zero, List.set_cons_succ, HD1.out, HD2.out]
    first
      | (refine tk1 (i := 9) (v := ?_) rfl (Or.inl ⟨by rfl, ?_⟩) (by assumption) ?_
         rotate_left
         · (intro w hSw; (try dsimp only at hSw); go_simp; try with_reducible rfl))
      | refine tk1 (i := 9) (v := undef) rfl (Or.inr ⟨by rfl, rfl⟩) (by assumption) ?_
    try simp only [List.getElem_toArray, List.getElem_cons_zero, List.getElem_cons_succ, Act.put, List.setIfInBounds_toArray, List.set_cons_zero, List.set_cons_succ, HD1.out, HD2.out]
    first
      | (refine tk1 (i := 10) (v := ?_) rfl (Or.inl ⟨by rfl, ?_⟩) (by assumption) ?_
         rotate_left
         · (intro w hSw; (try dsimp only at hSw); go_simp; try with_reducible rfl))
      | refine tk1 (i := 10) (v := undef) rfl (Or.inr ⟨by rfl, rfl⟩) (by assumption) ?_
    try simp only [List.getElem_toArray, List.getElem_cons_zero, List.getElem_cons_succ, Act.put, List.setIfInBounds_toArray, List.set_cons_zero, List.set_cons_succ, HD1.out, HD2.out]
    first
      | (refine tk1 (i := 11) (v := ?_) rfl (Or.inl ⟨by rfl, ?_⟩) (by assumption) ?_
         rotate_left
         · (intro w hSw; (try dsimp only at hSw); go_simp; try with_reducible rfl))
      | refine tk1 (i := 11) (v := undef) rfl (Or.inr ⟨by rfl, rfl⟩) (by assumption) ?_
    try simp only [List.getElem_toArray, List.getElem_cons_zero, List.getElem_cons_succ, Act.put, List.setIfInBounds_toArray, List.set_cons_zero, List.set_cons_succ, HD1.out, HD2.out]
    first
      | (refine tk1 (i := 12) (v := ?_) rfl (Or.inl ⟨by rfl, ?_⟩) (by assumption) ?_
         rotate_left
         · (intro w hSw; (try dsimp only at hSw); go_simp; try with_reducible rfl))
      | refine tk1 (i := 12) (v := undef) rfl (Or.inr ⟨by rfl, rfl⟩) (by assumption) ?_
    try simp only [List.getElem_toArray, List.getElem_cons_zero, List.getElem_cons_succ, Act.put, List.setIfInBounds_toArray, List.set_cons_zero, List.set_cons_succ, HD1.out, HD2.out]
    first
      | (refine tk1 (i := 13) (v := ?_) rfl (Or.inl ⟨by rfl, ?_⟩) (by assumption) ?_
         rotate_left
         · (intro w hSw; (try dsimp only at hSw); go_simp; try with_reducible rfl))
      | refine tk1 (i := 13) (v := undef) rfl (Or.inr ⟨by rfl, rfl⟩) (by assumption) ?_
    try simp only [List.getElem_toArray, List.getElem_cons_zero, List.getElem_cons_succ, Act.put, List.setIfInBounds_toArray, List.set_cons_zero, List.set_cons_succ, HD1.out, HD2.out]
    first
      | (refine tk1 (i := 14) (v := ?_) rfl (Or.inl ⟨by rfl, ?_⟩) (by assumption) ?_
         rotate_left
         · (intro w hSw; (try dsimp only at hSw); go_simp; try with_reducible rfl))
      | refine tk1 (i := 14) (v := undef) rfl (Or.inr ⟨by rfl, rfl⟩) (by assumption) ?_
    try simp only [List.getElem_toArray, List.getElem_cons_zero, List.getElem_cons_succ, Act.put, List.setIfInBounds_toArray, List.set_cons_zero, List.set_cons_succ, HD1.out, HD2.out]
    refine wpAnyH_ready (rs := [15]) (by kernel_rfl) (by simp) ?_
    refine AllReadyH.cons (o := _) rfl (fun K hK => ?_) ?_
    rotate_left
    · exact AllReadyH.nil
    go_simp
    (go_at_call 16; refine (k2.out _ (by first | assumption | exact Below.drew hU)).mono ?_; rintro e w' ⟨rfl, hbel⟩; have hbw : Below W.heap.size W w' := below_old' hbel (by first | assumption | exact Below.drew hU))
    refine hK.out _ _ ?_ (fun hHeld => ?_)
    · (try dsimp only)
      (first | assumption | (with_reducible first | exact below_old' (by assumption) (by assumption) | exact Below.drew (by assumption)))
    clear hK K
    try simp only [List.getElem_toArray, List.getElem_cons_zero, List.getElem_cons_succ, Act.put, List.setIfInBounds_toArray, List.set_cons_zero, List.set_cons_succ, HD1.out, HD2.out]
    first
      | (refine tk1 (i := 16) (v := ?_) rfl (Or.inl ⟨by rfl, ?_⟩) (by assumption) ?_
         rotate_left
         · (intro w hSw; (try dsimp only at hSw); go_simp; try with_reducible rfl))
      | refine tk1 (i := 16) (v := undef) rfl (Or.inr ⟨by rfl, rfl⟩) (by assumption) ?_
    try simp only [List.getElem_toArray, List.getElem_cons_zero, List.getElem_cons_succ, Act.put, List.setIfInBounds_toArray, List.set_cons_zero, List.set_cons_succ, HD1.out, HD2.out]
    first
      | (refine tk1 (i := 17) (v := ?_) rfl (Or.inl ⟨by rfl, ?_⟩) (by assumption) ?_
         rotate_left
         · (intro w hSw; (try dsimp only at hSw); go_simp; try with_reducible rfl))
      | refine tk1 (i := 17) (v := undef) rfl (Or.inr ⟨by rfl, rfl⟩) (by assumption) ?_
    try simp only [List.getElem_toArray, List.getElem_cons_zero, List.getElem_cons_succ, Act.put, List.setIfInBounds_toArray, List.set_cons_zero, List.set_cons_succ, HD1.out, HD2.out]
    refine wpAnyH_done (by kernel_rfl) ?_ _
    refine NoPanic.normal ?_
    have HBW := Lib.hid hbw
    have HO2 := Lib.hid (HO.out.drew.below hbel)
    clear hbw hbel v2 v3 v4 v5 v6 v7 v8 v9 v10 hU
    go_wp2_with fail
    go_roundg (gk - 1)
    case measure => omega
    case rel => exact ⟨n + 1, n + 1, 0, A, c, by omega, by omega, by omega, .inl rfl, rfl, by go_num, by go_num, Lib.hid (by rw [HTK.out, ← HTK0.out]; exact HO2.out), HBW⟩
end Go.Proofs.Ytnaafjdnmbajjaa
/- Layer 30, JitterPlays: what is known of a state and of what is awaited, at a step. -/
namespace Go.Proofs.Ytnaafjdnmbajjaa
open Go.RowKit
set_option linter.unusedVariables false
theorem AtStep.pair {i : Nat} {now : Int} {s : Jb.Jt} (h : AtStep i now s) : s.q.Pairwise Jb.bef := ((Jb.okQ_iff _ _ _).1 h.small.ok.2.2.2.2).2.2.1
theorem left_drop {now : Int} {D : List TW} {q : List Jb.Wt} (h : D.map TW.w = q) : (D.drop (Jb.due now q).length).map TW.w = Jb.left now q := by
  have hdl := Jb.due_left now q
  have h2 := List.drop_left (l₁ := Jb.due now q) (l₂ := Jb.left now q)
  rw [hdl] at h2
  rw [List.map_drop, h]
  exact h2
/-- the end: all is played -/
theorem end_run {i : Nat} {now : Int} {s : Jb.Jt} (h : AtStep i now s) (hi : i ≤ 60) (hn : Jb.Near now s.q) : ∃ s1 : Jb.Jt, Jb.run s (now + 1000000) = (s1, Jb.due (now + 1000000) s.q, 0) ∧ s1.q = [] ∧ Jb.left (now + 1000000) s.q = [] := by
  have h0 := h.now0
  have h1 := h.now1
  have h2 := h.le
  have hl := Jb.near_empty hn h.pair
  refine ⟨Jb.run0 s (now + 1000000), ?_, hl, hl⟩
  unfold Jb.run
  rw [Jb.chk_run h.small.ok (by omega) (by omega), if_pos rfl]
/-- a packet that is taken, and one that is not -/
theorem put_ways {i : Nat} {now wt : Int} {s s1 : Jb.Jt} {m : Jb.Md} {v : Int} (h : AtStep i now s) (hi : i ≤ 60) (w0 : 0 ≤ wt) (w1 : wt ≤ 65535) (hm : m.ok) (hp : Jb.put0 (Jb.run0 s (now + wt)) m = (s1, v)) (hn : Jb.Near now s.q) :
    (v = 1 ∧ now + wt < Jb.play s1 m.ti ∧ s1.q = Jb.ins' (Jb.left (now + wt) s.q) ⟨Jb.play s1 m.ti, m⟩ ∧ Jb.Near (now + wt) s1.q) ∨
    (v ≠ 1 ∧ v ≠ 0 ∧ s1.q = Jb.left (now + wt) s.q ∧ Jb.Near (now + wt) s1.q ∧ (now + wt < Jb.play s1 m.ti → Jb.play s1 m.ti ≤ now + wt + 120000 → s1.done < m.sq → ((Jb.left (now + wt) s.q).any fun w => w.m.sq == m.sq) = false → ¬(Jb.left (now + wt) s.q).length < 200)) := by
  obtain ⟨m1, m2, m3, m4⟩ := h.more hi w0 w1
  obtain ⟨_, hr⟩ := h.run hi w0 w1
  have hla := hr.small.late
  have htw := hr.small.twice
  have hnl := Jb.near_left hn (by omega : now ≤ now + wt)
  have hc := Jb.put0_cases (Jb.run0 s (now + wt)) m hr.small.ok hm (by omega) (by omega)
  rw [hp] at hc
  rcases hc with ⟨c1, c2, c3, c4, c5⟩ | ⟨c1, c2, c3, c4⟩
  · refine .inl ⟨c1, c2, ?_, ?_⟩
    · rw [c4, Jb.ins_ins' _ _ c5]; rfl
    · rw [c4]; exact Jb.near_ins hnl c3
  · exact .inr ⟨c1, c2, c3, by rw [c3]; exact hnl, c4⟩
end Go.Proofs.Ytnaafjdnmbajjaa
/- Layer 30: Formed of the reference, whatever the payload's length. -/
namespace Go.Proofs.Ytnaafjdnmbajjaa
open Go.RowKit
set_option linter.unusedVariables false
set_option linter.unusedSimpArgs false
attribute [local go_sem ↓] run_min_plain run_max_plain
attribute [local go_sem] setCell_drewN alloc_drewN
set_option maxRecDepth 100000 in
set_option maxHeartbeats 12800000 in
theorem rformed_big (sq ti : Int) (mk : Bool) (ty : Int) (A : Option Addr) (n c : Nat) (w : World) (v : Bool) (hv : v = decide ((0 ≤ sq ∧ sq ≤ 281474976710656) ∧ (-281474976710656 ≤ ti ∧ ti ≤ 281474976710656) ∧ n ≤ 1500)) : Calls Try.prog 25 #[.agg #[.int .i64 sq, .int .i64 ti, .bool mk, .int .u8 ty, .slice A n c]] w fun e w' => e = .returned (.bool v) ∧ Below w.heap.size w w' := by
  obtain ⟨b1, hb1⟩ : ∃ b, b = decide (0 ≤ sq ∧ sq ≤ 281474976710656) := ⟨_, rfl⟩
  obtain ⟨b2, hb2⟩ : ∃ b, b = decide (-281474976710656 ≤ ti ∧ ti ≤ 281474976710656) := ⟨_, rfl⟩
  have k1 := Lib.hid fun W => within_any sq 0 281474976710656 W b1 hb1
  have k2 := Lib.hid fun W => within_any ti (-281474976710656) 281474976710656 W b2 hb2
  have hV : v = (b1 && (b2 && decide ((n : Int) ≤ 1500))) := by
    rw [hv, hb1, hb2, ← Bool.decide_and, ← Bool.decide_and]
    congr 1
    rw [eq_iff_iff]
    omega
  have HV := Lib.hid hV
  clear hv hb1 hb2 hV
  cases b1
  · go_enter Try.func25, Try.ntmps25
    go_wp2_with fail
    refine (k1.out _).mono ?_
    rintro e w1 ⟨rfl, rfl⟩
    go_wp2_with fail
    go_ret
    exact ⟨ret_b (by rw [HV.out]; rfl), (Below.refl _ _).alloc (Nat.le_refl _) _⟩
  cases b2
  · go_enter Try.func25, Try.ntmps25
    go_wp2_with fail
    refine (k1.out _).mono ?_
    rintro e w1 ⟨rfl, rfl⟩
    go_wp2_with fail
    refine (k2.out _).mono ?_
    rintro e w1 ⟨rfl, rfl⟩
    go_wp2_with fail
    go_ret
    exact ⟨ret_b (by rw [HV.out]; rfl), (Below.refl _ _).alloc (Nat.le_refl _) _⟩
  · go_enter Try.func25, Try.ntmps25
    go_wp2_with fail
    refine (k1.out _).mono ?_
    rintro e w1 ⟨rfl, rfl⟩
    go_wp2_with fail
    refine (k2.out _).mono ?_
    rintro e w1 ⟨rfl, rfl⟩
    go_wp2_with fail
    go_ret
    exact ⟨ret_b (by rw [HV.out]; simp), (Below.refl _ _).alloc (Nat.le_refl _) _⟩
end Go.Proofs.Ytnaafjdnmbajjaa

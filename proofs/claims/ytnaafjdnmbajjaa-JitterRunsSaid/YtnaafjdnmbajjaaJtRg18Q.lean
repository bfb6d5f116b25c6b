/- Layer 30: JitterRuns: a region. -/
import Derived.Test.YtnaafjdnmbajjaaJtLensQ
import Derived.Test.YtnaafjdnmbajjaaJtNewQ
import Derived.Test.YtnaafjdnmbajjaaJtMeas3Q
import Derived.Test.YtnaafjdnmbajjaaJtRPutMbQ
import Derived.Test.YtnaafjdnmbajjaaJtRRunQ
import Derived.Test.YtnaafjdnmbajjaaJtTypes2
import Derived.Test.YtnaafjdnmbajjaaJtRValidQ
namespace Go.Proofs.Ytnaafjdnmbajjaa
open Go.RowKit
set_option linter.unusedVariables false
set_option linter.unusedSimpArgs false
attribute [local go_sem ↓] run_min_plain run_max_plain
attribute [local go_sem] setCell_drewN alloc_drewN
noncomputable def rg18_code : Code := ((Try.f4.body.bind (findRegJ 18)).getD .skip)
set_option maxRecDepth 100000 in
set_option maxHeartbeats 12800000 in
theorem rg18_wp {s0 s2 s3 s4 s5 s6 s8 s11 s12 s13 s14 s15 s16 s17 s18 s19 s20 s21 s22 s23 s24 s25 s26 s27 s28 s29 s30 s31 s32 s33 s34 s35 s36 s37 s38 s39 s40 s41 s42 s43 s44 s45 s46 s47 s48 s49 s50 s51 s52 s53 s54 s55 s56 s57 s58 s59 s60 s61 s62 s63 s64 s65 s66 s67 s68 s69 s70 s71 s72 s73 s74 s75 s76 s77 s78 s79 s80 s81 s82 s83 s84 s85 s86 s87 s88 s89 s90 s91 s92 s93 s94 s95 s96 s97 s98 s99 s100 s101 s102 s103 s104 s105 s106 s107 s108 s109 s110 s111 s112 s113 s114 s115 s116 s117 s118 s119 s120 s121 s122 s123 s124 s125 s126 s127 s128 s129 s130 s131 s132 s133 s134 s135 s136 s137 s138 s139 s140 s141 s142 s143 s144 s145 s146 s147 s148 s149 s150 s151 s152 s153 s154 s155 s156 s157 s158 s159 s160 s161 s162 s163 s164 : Value} {Q : Exit → Act → World → Prop} (w W : World) (g c : Nat) (s s' : Jb.Jt) (A : Option Addr) (l : List TW) (lp : List Jb.Wt) (v er : Int) (bL oL N cL : Nat) (now : Int) (i : Nat) (m : Jb.Md) (M : Option Addr) (mc : Nat) (SB : SBox W g s A c l) (UW : Bel w W) (hgw : w.heap.size ≤ g) (hl : l.length ≤ 1000) (hks : ∀ x ∈ s.q, x.m.pl.length ≤ 1000000000) (hput : Jb.put s now m = (s', lp, v, er)) (hiN : i < N) (hN : N ≤ 9223372036854775807) (hbL : bL < W.heap.size) (hm0 : W.cell? ⟨bL, oL + i * 7 + 2, none⟩ = some (.int .i64 m.sq)) (hm1 : W.cell? ⟨bL, oL + i * 7 + 3, none⟩ = some (.int .i64 m.ti)) (hm2 : W.cell? ⟨bL, oL + i * 7 + 4, none⟩ = some (.bool m.mrk)) (hm3 : W.cell? ⟨bL, oL + i * 7 + 5, none⟩ = some (.int .u8 m.ty)) (hm4 : W.cell? ⟨bL, oL + i * 7 + 6, none⟩ = some (.slice M m.pl.length mc)) (hmp : m.pl.length ≤ 100000) (hMI : IntsAt W W.heap.size .u8 M m.pl)
    (h : ∀ (wx : World) (g2 : Nat) (A3 : Option Addr) (c3 : Nat) (l3 : List TW) (A4 : Option Addr) (c4 : Nat) (l4 : List TW) (u124 u125 u126 u127 u128 u129 u130 u131 u132 u133 u134 u135 u136 : Value), l3.map TW.w = lp → Hid (Wts wx wx.heap.size A3 l3) → W.heap.size ≤ g2 → Hid (Below W.heap.size W wx) → Hid (SBox wx g2 s' A4 c4 l4) → Hid (Bel w wx) → Q .normal ⟨#[s0, .slice (some ⟨bL, oL, none⟩) N cL, s2, s3, s4, s5, s6, .pointer (some ⟨g, 0, none⟩), s8, .int .i64 now, .int .i64 (i : Int), s11, s12, s13, s14, s15, s16, s17, s18, s19, s20, .pointer (some ⟨g2, 0, none⟩), .slice A3 lp.length c3, .int .u8 v, .int .u8 er, s25, s26, s27, s28, s29, s30, s31, s32, s33, s34, s35, s36, s37, s38, s39, s40, s41, s42, s43, s44, s45, s46, s47, s48, s49, s50, s51, s52, s53, s54, s55, s56, s57, s58, s59, s60, s61, s62, s63, s64, s65, s66, s67, s68, s69, s70, s71, s72, s73, s74, s75, s76, s77, s78, s79, s80, s81, s82, s83, s84, s85, s86, s87, s88, s89, s90, s91, s92, s93, s94, s95, s96, s97, s98, s99, s100, s101, s102, s103, s104, s105, s106, s107, s108, s109, s110, s111, s112, s113, s114, s115, s116, s117, s118, s119, s120, s121, s122, s123, u124, u125, u126, u127, u128, u129, u130, u131, u132, u133, u134, u135, u136, s137, s138, s139, s140, s141, s142, s143, s144, s145, s146, s147, s148, s149, s150, s151, s152, s153, s154, s155, s156, s157, s158, s159, s160, s161, s162, s163, s164], []⟩ wx) : Code.wp Try.prog rg18_code Q ⟨#[s0, .slice (some ⟨bL, oL, none⟩) N cL, s2, s3, s4, s5, s6, .pointer (some ⟨g, 0, none⟩), s8, .int .i64 now, .int .i64 (i : Int), s11, s12, s13, s14, s15, s16, s17, s18, s19, s20, s21, s22, s23, s24, s25, s26, s27, s28, s29, s30, s31, s32, s33, s34, s35, s36, s37, s38, s39, s40, s41, s42, s43, s44, s45, s46, s47, s48, s49, s50, s51, s52, s53, s54, s55, s56, s57, s58, s59, s60, s61, s62, s63, s64, s65, s66, s67, s68, s69, s70, s71, s72, s73, s74, s75, s76, s77, s78, s79, s80, s81, s82, s83, s84, s85, s86, s87, s88, s89, s90, s91, s92, s93, s94, s95, s96, s97, s98, s99, s100, s101, s102, s103, s104, s105, s106, s107, s108, s109, s110, s111, s112, s113, s114, s115, s116, s117, s118, s119, s120, s121, s122, s123, s124, s125, s126, s127, s128, s129, s130, s131, s132, s133, s134, s135, s136, s137, s138, s139, s140, s141, s142, s143, s144, s145, s146, s147, s148, s149, s150, s151, s152, s153, s154, s155, s156, s157, s158, s159, s160, s161, s162, s163, s164], []⟩ W := by
  have hi0 : (0 : Int) ≤ (i : Int) := by omega
  have hi1 : (i : Int) < (N : Int) := by omega
  have hU : Below W.heap.size W W := Below.refl _ _
  obtain ⟨b0, b1, b2, b3, b4, b5, b6, b7, b8, b9, b10, b11, b12, b13⟩ := Blk.c14 SB.blk
  have hgl := SB.blk.lt
  have HS := Lib.hid SB
  have HU := Lib.hid UW
  have HMI := Lib.hid hMI
  have HPUT := Lib.hid hput
  have HKS := Lib.hid hks
  clear SB UW hMI hput hks
  conv => arg 2; whnf
  refine wp_region_noPanic ?_
  refine wp_region_held_drew (S := fun w' => Below W.heap.size W w' ∧ w'.cell? ⟨g, 0, none⟩ = some (.int .i64 s.least) ∧ w'.cell? ⟨g, 1, none⟩ = some (.int .i64 s.most) ∧ w'.cell? ⟨g, 2, none⟩ = some (.int .i64 s.now) ∧ w'.cell? ⟨g, 3, none⟩ = some (.bool s.on) ∧ w'.cell? ⟨g, 4, none⟩ = some (.int .i64 s.zero) ∧ w'.cell? ⟨g, 5, none⟩ = some (.int .i64 s.first) ∧ w'.cell? ⟨g, 6, none⟩ = some (.int .i64 s.high) ∧ w'.cell? ⟨g, 7, none⟩ = some (.int .i64 s.done) ∧ w'.cell? ⟨g, 8, none⟩ = some (.int .i64 s.spread) ∧ w'.cell? ⟨g, 9, none⟩ = some (.int .i64 s.trans) ∧ w'.cell? ⟨g, 10, none⟩ = some (.slice A l.length c) ∧ w'.cell? ⟨g, 11, none⟩ = some (.int .i64 s.late) ∧ w'.cell? ⟨g, 12, none⟩ = some (.int .i64 s.twice) ∧ w'.cell? ⟨g, 13, none⟩ = some (.int .i64 s.played) ∧ w'.cell? ⟨bL, oL + i * 7 + 2, none⟩ = some (.int .i64 m.sq) ∧ w'.cell? ⟨bL, oL + i * 7 + 3, none⟩ = some (.int .i64 m.ti) ∧ w'.cell? ⟨bL, oL + i * 7 + 4, none⟩ = some (.bool m.mrk) ∧ w'.cell? ⟨bL, oL + i * 7 + 5, none⟩ = some (.int .u8 m.ty) ∧ w'.cell? ⟨bL, oL + i * 7 + 6, none⟩ = some (.slice M m.pl.length mc)) (by kernel_rfl) ?_ (fun hHeld => ?_)
  · (first | assumption | ((try go_split_ands); refine and_dep ?_ (fun hbX => ⟨cell_old hbX b0, cell_old hbX b1, cell_old hbX b2, cell_old hbX b3, cell_old hbX b4, cell_old hbX b5, cell_old hbX b6, cell_old hbX b7, cell_old hbX b8, cell_old hbX b9, cell_old hbX b10, cell_old hbX b11, cell_old hbX b12, cell_old hbX b13, cell_old hbX hm0, cell_old hbX hm1, cell_old hbX hm2, cell_old hbX hm3, cell_old hbX hm4⟩); (with_reducible repeat first | assumption | exact below_old' (by assumption) (by assumption) | refine Below.drew ?_ | refine below_new_old ?_ _)))
  first
    | (refine tk1 (i := 0) (v := ?_) rfl (Or.inl ⟨by rfl, ?_⟩) (by assumption) ?_
       rotate_left
       · (intro w hSw; (try dsimp only at hSw); go_simp; try with_reducible rfl))
    | refine tk1 (i := 0) (v := undef) rfl (Or.inr ⟨by rfl, rfl⟩) (by assumption) ?_
  try simp only [List.getElem_toArray, List.getElem_cons_zero, List.getElem_cons_succ, Act.put, List.setIfInBounds_toArray, List.set_cons_zero, List.set_cons_succ]
  first
    | (refine tk1 (i := 1) (v := ?_) rfl (Or.inl ⟨by rfl, ?_⟩) (by assumption) ?_
       rotate_left
       · (intro w hSw; (try dsimp only at hSw); go_simp; try with_reducible rfl))
    | refine tk1 (i := 1) (v := undef) rfl (Or.inr ⟨by rfl, rfl⟩) (by assumption) ?_
  try simp only [List.getElem_toArray, List.getElem_cons_zero, List.getElem_cons_succ, Act.put, List.setIfInBounds_toArray, List.set_cons_zero, List.set_cons_succ]
  first
    | (refine tk1 (i := 2) (v := ?_) rfl (Or.inl ⟨by rfl, ?_⟩) (by assumption) ?_
       rotate_left
       · (intro w hSw; (try dsimp only at hSw); go_simp; try with_reducible rfl))
    | refine tk1 (i := 2) (v := undef) rfl (Or.inr ⟨by rfl, rfl⟩) (by assumption) ?_
  try simp only [List.getElem_toArray, List.getElem_cons_zero, List.getElem_cons_succ, Act.put, List.setIfInBounds_toArray, List.set_cons_zero, List.set_cons_succ]
  first
    | (refine tk1 (i := 3) (v := ?_) rfl (Or.inl ⟨by rfl, ?_⟩) (by assumption) ?_
       rotate_left
       · (intro w hSw; (try dsimp only at hSw); go_simp; try with_reducible rfl))
    | refine tk1 (i := 3) (v := undef) rfl (Or.inr ⟨by rfl, rfl⟩) (by assumption) ?_
  try simp only [List.getElem_toArray, List.getElem_cons_zero, List.getElem_cons_succ, Act.put, List.setIfInBounds_toArray, List.set_cons_zero, List.set_cons_succ]
  first
    | (refine tk1 (i := 4) (v := ?_) rfl (Or.inl ⟨by rfl, ?_⟩) (by assumption) ?_
       rotate_left
       · (intro w hSw; (try dsimp only at hSw); go_simp; try with_reducible rfl))
    | refine tk1 (i := 4) (v := undef) rfl (Or.inr ⟨by rfl, rfl⟩) (by assumption) ?_
  try simp only [List.getElem_toArray, List.getElem_cons_zero, List.getElem_cons_succ, Act.put, List.setIfInBounds_toArray, List.set_cons_zero, List.set_cons_succ]
  first
    | (refine tk1 (i := 5) (v := ?_) rfl (Or.inl ⟨by rfl, ?_⟩) (by assumption) ?_
       rotate_left
       · (intro w hSw; (try dsimp only at hSw); go_simp; try with_reducible rfl))
    | refine tk1 (i := 5) (v := undef) rfl (Or.inr ⟨by rfl, rfl⟩) (by assumption) ?_
  try simp only [List.getElem_toArray, List.getElem_cons_zero, List.getElem_cons_succ, Act.put, List.setIfInBounds_toArray, List.set_cons_zero, List.set_cons_succ]
  first
    | (refine tk1 (i := 6) (v := ?_) rfl (Or.inl ⟨by rfl, ?_⟩) (by assumption) ?_
       rotate_left
       · (intro w hSw; (try dsimp only at hSw); go_simp; try with_reducible rfl))
    | refine tk1 (i := 6) (v := undef) rfl (Or.inr ⟨by rfl, rfl⟩) (by assumption) ?_
  try simp only [List.getElem_toArray, List.getElem_cons_zero, List.getElem_cons_succ, Act.put, List.setIfInBounds_toArray, List.set_cons_zero, List.set_cons_succ]
  refine wpAnyH_ready (rs := [7, 13]) (by kernel_rfl) (by simp) ?_
  refine AllReadyH.cons (o := _) rfl (fun K hK => ?_) (AllReadyH.cons (o := _) rfl (fun K hK => ?_) AllReadyH.nil)
  · go_simp
    (go_at_call 12; refine (rput_st s A l l.length c now m M m.pl.length mc _ HS.out.q rfl (by omega) HS.out.cap HS.out.cm HS.out.drew.wts (fun a ha => HKS.out a.w (by rw [← HS.out.q]; exact List.mem_map.2 ⟨a, ha, rfl⟩)) rfl (by omega) HMI.out.drew).mono ?_; rintro e wp hjp; obtain ⟨A3, c3, l3, A4, c4, l4, rfl, h1, h2, h3, h4, h5, h6, hbp⟩ := put_e HPUT.out hjp)
    have hbw : Below W.heap.size W wp := by first | exact below_old' hbp (Below.refl _ _).drew | exact below_old' hbp (by (try go_split_ands); assumption)
    obtain ⟨hcc, hff⟩ := bcell hbp
    simp only [JL]
    refine hK.out _ _ ?_ (fun hHeld => ?_)
    · (try dsimp only)
      (first | assumption | ((try go_split_ands); refine and_dep ?_ (fun hbX => ⟨cell_old hbX b0, cell_old hbX b1, cell_old hbX b2, cell_old hbX b3, cell_old hbX b4, cell_old hbX b5, cell_old hbX b6, cell_old hbX b7, cell_old hbX b8, cell_old hbX b9, cell_old hbX b10, cell_old hbX b11, cell_old hbX b12, cell_old hbX b13, cell_old hbX hm0, cell_old hbX hm1, cell_old hbX hm2, cell_old hbX hm3, cell_old hbX hm4⟩); (with_reducible repeat first | assumption | exact below_old' (by assumption) (by assumption) | refine Below.drew ?_ | refine below_new_old ?_ _)))
    clear hK K
    try simp only [List.getElem_toArray, List.getElem_cons_zero, List.getElem_cons_succ, Act.put, List.setIfInBounds_toArray, List.set_cons_zero, List.set_cons_succ]
    first
      | (refine tk1 (i := 8) (v := ?_) rfl (Or.inl ⟨by rfl, ?_⟩) (by assumption) ?_
         rotate_left
         · (intro w hSw; (try dsimp only at hSw); go_simp; try with_reducible rfl))
      | refine tk1 (i := 8) (v := undef) rfl (Or.inr ⟨by rfl, rfl⟩) (by assumption) ?_
    try simp only [List.getElem_toArray, List.getElem_cons_zero, List.getElem_cons_succ, Act.put, List.setIfInBounds_toArray, List.set_cons_zero, List.set_cons_succ]
    first
      | (refine tk1 (i := 9) (v := ?_) rfl (Or.inl ⟨by rfl, ?_⟩) (by assumption) ?_
         rotate_left
         · (intro w hSw; (try dsimp only at hSw); go_simp; try with_reducible rfl))
      | refine tk1 (i := 9) (v := undef) rfl (Or.inr ⟨by rfl, rfl⟩) (by assumption) ?_
    try simp only [List.getElem_toArray, List.getElem_cons_zero, List.getElem_cons_succ, Act.put, List.setIfInBounds_toArray, List.set_cons_zero, List.set_cons_succ]
    first
      | (refine tk1 (i := 10) (v := ?_) rfl (Or.inl ⟨by rfl, ?_⟩) (by assumption) ?_
         rotate_left
         · (intro w hSw; (try dsimp only at hSw); go_simp; try with_reducible rfl))
      | refine tk1 (i := 10) (v := undef) rfl (Or.inr ⟨by rfl, rfl⟩) (by assumption) ?_
    try simp only [List.getElem_toArray, List.getElem_cons_zero, List.getElem_cons_succ, Act.put, List.setIfInBounds_toArray, List.set_cons_zero, List.set_cons_succ]
    first
      | (refine tk1 (i := 11) (v := ?_) rfl (Or.inl ⟨by rfl, ?_⟩) (by assumption) ?_
         rotate_left
         · (intro w hSw; (try dsimp only at hSw); go_simp; try with_reducible rfl))
      | refine tk1 (i := 11) (v := undef) rfl (Or.inr ⟨by rfl, rfl⟩) (by assumption) ?_
    try simp only [List.getElem_toArray, List.getElem_cons_zero, List.getElem_cons_succ, Act.put, List.setIfInBounds_toArray, List.set_cons_zero, List.set_cons_succ]
    first
      | (refine tk1 (i := 12) (v := ?_) rfl (Or.inl ⟨by rfl, ?_⟩) (by assumption) ?_
         rotate_left
         · (intro w hSw; (try dsimp only at hSw); go_simp; try with_reducible rfl))
      | refine tk1 (i := 12) (v := undef) rfl (Or.inr ⟨by rfl, rfl⟩) (by assumption) ?_
    try simp only [List.getElem_toArray, List.getElem_cons_zero, List.getElem_cons_succ, Act.put, List.setIfInBounds_toArray, List.set_cons_zero, List.set_cons_succ]
    have hz1 : W.heap.size ≤ wp.heap.size := hbw.size
    refine wpAnyH_ready (rs := [13]) (by kernel_rfl) (by simp) ?_
    refine AllReadyH.cons (o := _) rfl (fun K hK => ?_) ?_
    rotate_left
    · exact AllReadyH.nil
    go_simp
    refine hK.out _ _ ?_ (fun hHeld => ?_)
    · (try dsimp only)
      (first | assumption | ((try go_split_ands); refine and_dep ?_ (fun hbX => ⟨cell_old hbX b0, cell_old hbX b1, cell_old hbX b2, cell_old hbX b3, cell_old hbX b4, cell_old hbX b5, cell_old hbX b6, cell_old hbX b7, cell_old hbX b8, cell_old hbX b9, cell_old hbX b10, cell_old hbX b11, cell_old hbX b12, cell_old hbX b13, cell_old hbX hm0, cell_old hbX hm1, cell_old hbX hm2, cell_old hbX hm3, cell_old hbX hm4⟩); (with_reducible repeat first | assumption | exact below_old' (by assumption) (by assumption) | refine Below.drew ?_ | refine below_new_old ?_ _)))
    clear hK K
    try simp only [List.getElem_toArray, List.getElem_cons_zero, List.getElem_cons_succ, Act.put, List.setIfInBounds_toArray, List.set_cons_zero, List.set_cons_succ]
    have hsx : SBox (wp.alloc (.cells (JL s' A4 l4.length c4).toArray 26)) wp.heap.size s' A4 c4 l4 := SBox.new h2 h5 h6 h4
    have hux : Bel w (wp.alloc (.cells (JL s' A4 l4.length c4).toArray 26)) := Bel.push (HU.out.drew.later hbp) _
    have hbx : Below W.heap.size W (wp.alloc (.cells (JL s' A4 l4.length c4).toArray 26)) := Bel.push hbw _
    have hwx : Wts (wp.alloc (.cells (JL s' A4 l4.length c4).toArray 26)) (wp.alloc (.cells (JL s' A4 l4.length c4).toArray 26)).heap.size A3 l3 := h3.push _
    simp only [JL] at hsx hux hbx hwx
    have HSX := Lib.hid hsx
    have HUX := Lib.hid hux
    have HBX := Lib.hid hbx
    have HWX := Lib.hid hwx
    clear hsx hux hbx hwx
    refine wpAnyH_ready (rs := [14]) (by kernel_rfl) (by simp) ?_
    refine AllReadyH.cons (o := _) rfl (fun K hK => ?_) ?_
    rotate_left
    · exact AllReadyH.nil
    go_simp
    refine hK.out _ _ ?_ (fun hHeld => ?_)
    · (try dsimp only)
      exact and_dep HBX.out (fun hbX => ⟨cell_old hbX b0, cell_old hbX b1, cell_old hbX b2, cell_old hbX b3, cell_old hbX b4, cell_old hbX b5, cell_old hbX b6, cell_old hbX b7, cell_old hbX b8, cell_old hbX b9, cell_old hbX b10, cell_old hbX b11, cell_old hbX b12, cell_old hbX b13, cell_old hbX hm0, cell_old hbX hm1, cell_old hbX hm2, cell_old hbX hm3, cell_old hbX hm4⟩)
    clear hK K
    try simp only [List.getElem_toArray, List.getElem_cons_zero, List.getElem_cons_succ, Act.put, List.setIfInBounds_toArray, List.set_cons_zero, List.set_cons_succ]
    first
      | (refine tk1 (i := 15) (v := ?_) rfl (Or.inl ⟨by rfl, ?_⟩) (by assumption) ?_
         rotate_left
         · (intro w hSw; (try dsimp only at hSw); go_simp; try with_reducible rfl))
      | refine tk1 (i := 15) (v := undef) rfl (Or.inr ⟨by rfl, rfl⟩) (by assumption) ?_
    try simp only [List.getElem_toArray, List.getElem_cons_zero, List.getElem_cons_succ, Act.put, List.setIfInBounds_toArray, List.set_cons_zero, List.set_cons_succ]
    first
      | (refine tk1 (i := 16) (v := ?_) rfl (Or.inl ⟨by rfl, ?_⟩) (by assumption) ?_
         rotate_left
         · (intro w hSw; (try dsimp only at hSw); go_simp; try with_reducible rfl))
      | refine tk1 (i := 16) (v := undef) rfl (Or.inr ⟨by rfl, rfl⟩) (by assumption) ?_
    try simp only [List.getElem_toArray, List.getElem_cons_zero, List.getElem_cons_succ, Act.put, List.setIfInBounds_toArray, List.set_cons_zero, List.set_cons_succ]
    first
      | (refine tk1 (i := 17) (v := ?_) rfl (Or.inl ⟨by rfl, ?_⟩) (by assumption) ?_
         rotate_left
         · (intro w hSw; (try dsimp only at hSw); go_simp; try with_reducible rfl))
      | refine tk1 (i := 17) (v := undef) rfl (Or.inr ⟨by rfl, rfl⟩) (by assumption) ?_
    try simp only [List.getElem_toArray, List.getElem_cons_zero, List.getElem_cons_succ, Act.put, List.setIfInBounds_toArray, List.set_cons_zero, List.set_cons_succ]
    refine wpAnyH_done (by kernel_rfl) ?_ _
    refine NoPanic.normal ?_
    try simp only [List.getElem_toArray, List.getElem_cons_zero, List.getElem_cons_succ, Act.put, List.setIfInBounds_toArray, List.set_cons_zero, List.set_cons_succ]
    have hl3 : l3.length = lp.length := by rw [← h1, List.length_map]
    rw [← hl3] at h
    exact h _ (wp.heap.size) A3 c3 l3 A4 c4 l4 _ _ _ _ _ _ _ _ _ _ _ _ _ h1 HWX (by omega) HBX HSX HUX
  · have HZ0 : Hid (SBox (World.alloc W.drew (.cells #[.int .i64 0, .int .i64 0, .int .i64 0, .bool false, .int .i64 0, .int .i64 0, .int .i64 0, .int .i64 0, .int .i64 0, .int .i64 0, .slice none 0 0, .int .i64 0, .int .i64 0, .int .i64 0] 26)) W.drew.heap.size Jb.Jt.none none 0 []) := Lib.hid (SBox.new (s := Jb.Jt.none) (c := 0) (l := []) rfl (Nat.le_refl _) (Nat.zero_le _) Wts.empty)
    have HU0 : Hid (Bel w (World.alloc W.drew (.cells #[.int .i64 0, .int .i64 0, .int .i64 0, .bool false, .int .i64 0, .int .i64 0, .int .i64 0, .int .i64 0, .int .i64 0, .int .i64 0, .slice none 0 0, .int .i64 0, .int .i64 0, .int .i64 0] 26))) := Lib.hid (Bel.push HU.out.drew _)
    have HB0 : Hid (Below W.heap.size W (World.alloc W.drew (.cells #[.int .i64 0, .int .i64 0, .int .i64 0, .bool false, .int .i64 0, .int .i64 0, .int .i64 0, .int .i64 0, .int .i64 0, .int .i64 0, .slice none 0 0, .int .i64 0, .int .i64 0, .int .i64 0] 26))) := Lib.hid (Bel.push (Bel.refl W).drew _)
    go_simp
    refine hK.out _ _ ?_ (fun hHeld => ?_)
    · (try dsimp only)
      exact and_dep HB0.out (fun hbX => ⟨cell_old hbX b0, cell_old hbX b1, cell_old hbX b2, cell_old hbX b3, cell_old hbX b4, cell_old hbX b5, cell_old hbX b6, cell_old hbX b7, cell_old hbX b8, cell_old hbX b9, cell_old hbX b10, cell_old hbX b11, cell_old hbX b12, cell_old hbX b13, cell_old hbX hm0, cell_old hbX hm1, cell_old hbX hm2, cell_old hbX hm3, cell_old hbX hm4⟩)
    clear hK K
    try simp only [List.getElem_toArray, List.getElem_cons_zero, List.getElem_cons_succ, Act.put, List.setIfInBounds_toArray, List.set_cons_zero, List.set_cons_succ]
    refine wpAnyH_ready (rs := [7]) (by kernel_rfl) (by simp) ?_
    refine AllReadyH.cons (o := _) rfl (fun K hK => ?_) ?_
    rotate_left
    · exact AllReadyH.nil
    go_simp
    (go_at_call 12; refine (rput_st s A l l.length c now m M m.pl.length mc _ HS.out.q rfl (by omega) HS.out.cap HS.out.cm (HS.out.drew.push _).wts (fun a ha => HKS.out a.w (by rw [← HS.out.q]; exact List.mem_map.2 ⟨a, ha, rfl⟩)) rfl (by omega) (HMI.out.drew.push _)).mono ?_; rintro e wp hjp; obtain ⟨A3, c3, l3, A4, c4, l4, rfl, h1, h2, h3, h4, h5, h6, hbp⟩ := put_e HPUT.out hjp)
    have hbw : Below W.heap.size W wp := by first | exact HB0.out.trans (hbp.mono HB0.out.size) | exact below_old' hbp (by (try go_split_ands); assumption)
    obtain ⟨hcc, hff⟩ := bcell hbp
    simp only [JL]
    refine hK.out _ _ ?_ (fun hHeld => ?_)
    · (try dsimp only)
      exact and_dep hbw (fun hbX => ⟨cell_old hbX b0, cell_old hbX b1, cell_old hbX b2, cell_old hbX b3, cell_old hbX b4, cell_old hbX b5, cell_old hbX b6, cell_old hbX b7, cell_old hbX b8, cell_old hbX b9, cell_old hbX b10, cell_old hbX b11, cell_old hbX b12, cell_old hbX b13, cell_old hbX hm0, cell_old hbX hm1, cell_old hbX hm2, cell_old hbX hm3, cell_old hbX hm4⟩)
    clear hK K
    try simp only [List.getElem_toArray, List.getElem_cons_zero, List.getElem_cons_succ, Act.put, List.setIfInBounds_toArray, List.set_cons_zero, List.set_cons_succ]
    first
      | (refine tk1 (i := 8) (v := ?_) rfl (Or.inl ⟨by rfl, ?_⟩) (by assumption) ?_
         rotate_left
         · (intro w hSw; (try dsimp only at hSw); go_simp; try with_reducible rfl))
      | refine tk1 (i := 8) (v := undef) rfl (Or.inr ⟨by rfl, rfl⟩) (by assumption) ?_
    try simp only [List.getElem_toArray, List.getElem_cons_zero, List.getElem_cons_succ, Act.put, List.setIfInBounds_toArray, List.set_cons_zero, List.set_cons_succ]
    first
      | (refine tk1 (i := 9) (v := ?_) rfl (Or.inl ⟨by rfl, ?_⟩) (by assumption) ?_
         rotate_left
         · (intro w hSw; (try dsimp only at hSw); go_simp; try with_reducible rfl))
      | refine tk1 (i := 9) (v := undef) rfl (Or.inr ⟨by rfl, rfl⟩) (by assumption) ?_
    try simp only [List.getElem_toArray, List.getElem_cons_zero, List.getElem_cons_succ, Act.put, List.setIfInBounds_toArray, List.set_cons_zero, List.set_cons_succ]
    first
      | (refine tk1 (i := 10) (v := ?_) rfl (Or.inl ⟨by rfl, ?_⟩) (by assumption) ?_
         rotate_left
         · (intro w hSw; (try dsimp only at hSw); go_simp; try with_reducible rfl))
      | refine tk1 (i := 10) (v := undef) rfl (Or.inr ⟨by rfl, rfl⟩) (by assumption) ?_
    try simp only [List.getElem_toArray, List.getElem_cons_zero, List.getElem_cons_succ, Act.put, List.setIfInBounds_toArray, List.set_cons_zero, List.set_cons_succ]
    first
      | (refine tk1 (i := 11) (v := ?_) rfl (Or.inl ⟨by rfl, ?_⟩) (by assumption) ?_
         rotate_left
         · (intro w hSw; (try dsimp only at hSw); go_simp; try with_reducible rfl))
      | refine tk1 (i := 11) (v := undef) rfl (Or.inr ⟨by rfl, rfl⟩) (by assumption) ?_
    try simp only [List.getElem_toArray, List.getElem_cons_zero, List.getElem_cons_succ, Act.put, List.setIfInBounds_toArray, List.set_cons_zero, List.set_cons_succ]
    first
      | (refine tk1 (i := 12) (v := ?_) rfl (Or.inl ⟨by rfl, ?_⟩) (by assumption) ?_
         rotate_left
         · (intro w hSw; (try dsimp only at hSw); go_simp; try with_reducible rfl))
      | refine tk1 (i := 12) (v := undef) rfl (Or.inr ⟨by rfl, rfl⟩) (by assumption) ?_
    try simp only [List.getElem_toArray, List.getElem_cons_zero, List.getElem_cons_succ, Act.put, List.setIfInBounds_toArray, List.set_cons_zero, List.set_cons_succ]
    have hzb : SBox wp W.heap.size Jb.Jt.none none 0 [] := HZ0.out.later hbp
    have HZB := Lib.hid hzb
    have HUP := Lib.hid (HU0.out.later hbp)
    have HBP := Lib.hid hbw
    have HWP := Lib.hid h3
    have hz2 : w.heap.size ≤ W.heap.size := HU.out.size
    obtain ⟨z0, z1, z2, z3, z4, z5, z6, z7, z8, z9, z10, z11, z12, z13⟩ := Blk.c14 hzb.blk
    have zfz := hzb.blk.frozen
    have hzl := hzb.blk.lt
    clear hzb
    have hsx : SBox (setRow (W.heap.size) wp 0 (JL s' A4 l4.length c4)) (W.heap.size) s' A4 c4 l4 := HZB.out.store (s' := s') h2 h5 h6 h4
    have hux : Bel w (setRow (W.heap.size) wp 0 (JL s' A4 l4.length c4)) := below_setRow (by omega) (JL s' A4 l4.length c4) wp 0 HUP.out
    have hbx : Below W.heap.size W (setRow (W.heap.size) wp 0 (JL s' A4 l4.length c4)) := below_setRow (by omega) (JL s' A4 l4.length c4) wp 0 HBP.out
    have hwx : Wts (setRow (W.heap.size) wp 0 (JL s' A4 l4.length c4)) (setRow (W.heap.size) wp 0 (JL s' A4 l4.length c4)).heap.size A3 l3 := wts_size (JL s' A4 l4.length c4) (HWP.out.setRowNe HZB.out.blk (JL_no _ _ _ _) (JL s' A4 l4.length c4))
    simp only [JL, setRow, Nat.zero_add, Nat.reduceAdd] at hsx hux hbx hwx
    have HSX := Lib.hid hsx
    have HUX := Lib.hid hux
    have HBX := Lib.hid hbx
    have HWX := Lib.hid hwx
    clear hsx hux hbx hwx
    refine wpAnyH_ready (rs := [14]) (by kernel_rfl) (by simp) ?_
    refine AllReadyH.cons (o := _) rfl (fun K hK => ?_) ?_
    rotate_left
    · exact AllReadyH.nil
    go_simp
    refine hK.out _ _ ?_ (fun hHeld => ?_)
    · (try dsimp only)
      exact and_dep HBX.out (fun hbX => ⟨cell_old hbX b0, cell_old hbX b1, cell_old hbX b2, cell_old hbX b3, cell_old hbX b4, cell_old hbX b5, cell_old hbX b6, cell_old hbX b7, cell_old hbX b8, cell_old hbX b9, cell_old hbX b10, cell_old hbX b11, cell_old hbX b12, cell_old hbX b13, cell_old hbX hm0, cell_old hbX hm1, cell_old hbX hm2, cell_old hbX hm3, cell_old hbX hm4⟩)
    clear hK K
    try simp only [List.getElem_toArray, List.getElem_cons_zero, List.getElem_cons_succ, Act.put, List.setIfInBounds_toArray, List.set_cons_zero, List.set_cons_succ]
    first
      | (refine tk1 (i := 15) (v := ?_) rfl (Or.inl ⟨by rfl, ?_⟩) (by assumption) ?_
         rotate_left
         · (intro w hSw; (try dsimp only at hSw); go_simp; try with_reducible rfl))
      | refine tk1 (i := 15) (v := undef) rfl (Or.inr ⟨by rfl, rfl⟩) (by assumption) ?_
    try simp only [List.getElem_toArray, List.getElem_cons_zero, List.getElem_cons_succ, Act.put, List.setIfInBounds_toArray, List.set_cons_zero, List.set_cons_succ]
    first
      | (refine tk1 (i := 16) (v := ?_) rfl (Or.inl ⟨by rfl, ?_⟩) (by assumption) ?_
         rotate_left
         · (intro w hSw; (try dsimp only at hSw); go_simp; try with_reducible rfl))
      | refine tk1 (i := 16) (v := undef) rfl (Or.inr ⟨by rfl, rfl⟩) (by assumption) ?_
    try simp only [List.getElem_toArray, List.getElem_cons_zero, List.getElem_cons_succ, Act.put, List.setIfInBounds_toArray, List.set_cons_zero, List.set_cons_succ]
    first
      | (refine tk1 (i := 17) (v := ?_) rfl (Or.inl ⟨by rfl, ?_⟩) (by assumption) ?_
         rotate_left
         · (intro w hSw; (try dsimp only at hSw); go_simp; try with_reducible rfl))
      | refine tk1 (i := 17) (v := undef) rfl (Or.inr ⟨by rfl, rfl⟩) (by assumption) ?_
    try simp only [List.getElem_toArray, List.getElem_cons_zero, List.getElem_cons_succ, Act.put, List.setIfInBounds_toArray, List.set_cons_zero, List.set_cons_succ]
    refine wpAnyH_done (by kernel_rfl) ?_ _
    refine NoPanic.normal ?_
    try simp only [List.getElem_toArray, List.getElem_cons_zero, List.getElem_cons_succ, Act.put, List.setIfInBounds_toArray, List.set_cons_zero, List.set_cons_succ]
    have hl3 : l3.length = lp.length := by rw [← h1, List.length_map]
    rw [← hl3] at h
    exact h _ (W.heap.size) A3 c3 l3 A4 c4 l4 _ _ _ _ _ _ _ _ _ _ _ _ _ h1 HWX (by omega) HBX HSX HUX
end Go.Proofs.Ytnaafjdnmbajjaa
/- Layer 30, JitterRuns: what is known of a state at a step. -/
namespace Go.Proofs.Ytnaafjdnmbajjaa
open Go.RowKit
set_option linter.unusedVariables false
/-- a state behind i steps, at most 65535 milliseconds each -/
structure AtStep (i : Nat) (now : Int) (s : Jb.Jt) : Prop where
  small : Jb.Small i s
  now0 : 0 ≤ now
  now1 : now ≤ 65535 * (i : Int)
  le : s.now ≤ now
theorem AtStep.init {l m : Int} (h : Jb.cfg l m) : AtStep 0 0 (Jb.new l m).1 := by
  refine ⟨Jb.small_new l m h, Int.le_refl _, Int.le_refl _, ?_⟩
  have hn : (Jb.new l m).1.now = 0 := by unfold Jb.new; rw [if_pos h]
  rw [hn]; exact Int.le_refl _
theorem AtStep.queue {i : Nat} {now : Int} {s : Jb.Jt} (h : AtStep i now s) : s.q.length ≤ 200 ∧ (∀ x ∈ s.q, I64 x.m.sq) ∧ (∀ x ∈ s.q, x.m.pl.length ≤ 1000000000) := by
  obtain ⟨q1, q2, _, _⟩ := (Jb.okQ_iff _ _ _).1 h.small.ok.2.2.2.2
  refine ⟨q1, fun x hx => ?_, fun x hx => ?_⟩
  · have := (q2 x hx).1.1
    unfold I64; omega
  · have := (q2 x hx).1.2.2
    omega
theorem AtStep.more {i : Nat} {now wt : Int} {s : Jb.Jt} (h : AtStep i now s) (hi : i ≤ 60) (w0 : 0 ≤ wt) (w1 : wt ≤ 65535) : s.now ≤ now + wt ∧ now + wt ≤ 281474976710656 ∧ 0 ≤ now + wt ∧ now + wt ≤ 65535 * ((i + 1 : Nat) : Int) := by
  have := h.now0
  have := h.now1
  have := h.le
  omega
theorem AtStep.run {i : Nat} {now wt : Int} {s : Jb.Jt} (h : AtStep i now s) (hi : i ≤ 60) (w0 : 0 ≤ wt) (w1 : wt ≤ 65535) : Jb.run s (now + wt) = (Jb.run0 s (now + wt), Jb.due (now + wt) s.q, 0) ∧ AtStep (i + 1) (now + wt) (Jb.run0 s (now + wt)) := by
  obtain ⟨m1, m2, m3, m4⟩ := h.more hi w0 w1
  refine ⟨?_, ?_, m3, m4, Int.le_refl _⟩
  · unfold Jb.run; rw [Jb.chk_run h.small.ok m1 m2, if_pos rfl]
  · have := Jb.small_run h.small (by omega) (now + wt) m1 m2
    simpa using this
theorem AtStep.put {i : Nat} {now wt : Int} {s : Jb.Jt} {m : Jb.Md} (h : AtStep i now s) (hi : i ≤ 60) (w0 : 0 ≤ wt) (w1 : wt ≤ 65535) (hm : m.ok) : ∃ (s' : Jb.Jt) (v : Int), Jb.put s (now + wt) m = (s', Jb.due (now + wt) s.q, v, 0) ∧ Jb.put0 (Jb.run0 s (now + wt)) m = (s', v) ∧ AtStep (i + 1) (now + wt) s' := by
  obtain ⟨m1, m2, m3, m4⟩ := h.more hi w0 w1
  refine ⟨(Jb.put0 (Jb.run0 s (now + wt)) m).1, (Jb.put0 (Jb.run0 s (now + wt)) m).2, ?_, rfl, ?_, m3, m4, ?_⟩
  · unfold Jb.put; rw [Jb.chk_put h.small.ok m1 m2 hm, if_pos rfl]
  · have := Jb.small_put h.small (by omega) (now + wt) m1 m2 m hm
    simpa using this
  · have := (Jb.put0_cnt (Jb.run0 s (now + wt)) m).2.2.2.1
    rw [this]; exact Int.le_refl _
theorem AtStep.bad {i : Nat} {now wt : Int} {s : Jb.Jt} {m : Jb.Md} (hm : ¬m.ok) : Jb.put s (now + wt) m = (Jb.Jt.none, [], 0, 2) := by
  have h2 := Jb.chk_bad (s := s) (now := now + wt) hm
  unfold Jb.put; rw [h2, if_neg (by decide)]
theorem AtStep.keep {i : Nat} {now wt : Int} {s : Jb.Jt} (h : AtStep i now s) (hi : i ≤ 60) (w0 : 0 ≤ wt) (w1 : wt ≤ 65535) : AtStep (i + 1) (now + wt) s := by
  obtain ⟨m1, m2, m3, m4⟩ := h.more hi w0 w1
  refine ⟨⟨h.small.ok, ?_, ?_, ?_⟩, m3, m4, m1⟩
  · have := h.small.late; simp; omega
  · have := h.small.twice; simp; omega
  · have := h.small.played; simp; omega
theorem due_le (now : Int) (q : List Jb.Wt) : (Jb.due now q).length ≤ q.length := (dl_len now q).1
theorem AtStep.valid {i : Nat} {now : Int} {s : Jb.Jt} (h : AtStep i now s) : Jb.valid s = true := by unfold Jb.valid; rw [decide_eq_true_iff]; exact h.small.ok
theorem rowsS {w : World} {n : Nat} {A : Option Addr} {l : List TStep} (h : RowsAt w n 7 TStep.row A l) {k : Nat} {a : TStep} (ha : l[k]? = some a) : ∃ b off, A = some ⟨b, off, none⟩ ∧ b < n ∧
    w.cell? ⟨b, off + k * 7, none⟩ = some (.int .u16 a.wait) ∧ w.cell? ⟨b, off + k * 7 + 1, none⟩ = some (.bool a.idle) ∧ w.cell? ⟨b, off + k * 7 + 2, none⟩ = some (.int .i64 a.m.sq) ∧ w.cell? ⟨b, off + k * 7 + 3, none⟩ = some (.int .i64 a.m.ti) ∧ w.cell? ⟨b, off + k * 7 + 4, none⟩ = some (.bool a.m.mrk) ∧ w.cell? ⟨b, off + k * 7 + 5, none⟩ = some (.int .u8 a.m.ty) ∧ w.cell? ⟨b, off + k * 7 + 6, none⟩ = some (.slice a.B a.m.pl.length a.c) := by
  obtain ⟨b, off, rfl, hb, hc⟩ := h (by have := (List.getElem?_eq_some_iff.1 ha).1; omega)
  exact ⟨b, off, rfl, hb, hc k a ha 0 _ rfl, hc k a ha 1 _ rfl, hc k a ha 2 _ rfl, hc k a ha 3 _ rfl, hc k a ha 4 _ rfl, hc k a ha 5 _ rfl, hc k a ha 6 _ rfl⟩
theorem rvalid_s2 (s : Jb.Jt) (A : Option Addr) (l : List TW) (n c : Nat) (w : World) (hq : l.map TW.w = s.q) (hn : l.length = n) (hl : n ≤ 100000) (hA : Wts w w.heap.size A l) (hP : ∀ a ∈ l, a.w.m.pl.length ≤ 1000000000) (v : Bool) (hv : v = Jb.valid s) : Calls Try.prog 19 #[.agg #[.int .i64 s.least, .int .i64 s.most, .int .i64 s.now, .bool s.on, .int .i64 s.zero, .int .i64 s.first, .int .i64 s.high, .int .i64 s.done, .int .i64 s.spread, .int .i64 s.trans, .slice A n c, .int .i64 s.late, .int .i64 s.twice, .int .i64 s.played]] w fun e w' => e = .returned (.bool v) ∧ Below w.heap.size w w' := by
  obtain ⟨le, mo, nw, on, ze, fi, hi, dn, sp, tr, q, la, tw, pd⟩ := s
  simp only at hq ⊢
  subst hq
  exact rvalid_any le mo nw on ze fi hi dn sp tr A l n c la tw pd w hn hl hA hP v hv
theorem playx_s2 (s : Jb.Jt) (A : Option Addr) (l : List TW) (n c : Nat) (t : Int) (w : World) (hq : l.map TW.w = s.q) (hn : l.length = n) (hl : n ≤ 100000) (hA : Wts w w.heap.size A l) (hK : ∀ a ∈ l, I64 a.w.m.sq) : Calls Try.prog 22 #[.agg #[.int .i64 s.least, .int .i64 s.most, .int .i64 s.now, .bool s.on, .int .i64 s.zero, .int .i64 s.first, .int .i64 s.high, .int .i64 s.done, .int .i64 s.spread, .int .i64 s.trans, .slice A n c, .int .i64 s.late, .int .i64 s.twice, .int .i64 s.played], .int .i64 t] w fun e w' => e = .returned (.int .i64 (Jb.play s t)) ∧ Below w.heap.size w w' := by
  obtain ⟨le, mo, nw, on, ze, fi, hi, dn, sp, tr, q, la, tw, pd⟩ := s
  simp only at hq ⊢
  subst hq
  exact playx_let le mo nw on ze fi hi dn sp tr A l n c la tw pd t w hn hl hA hK
theorem wfu16 {z : Int} (h : (Lit.int .u16 z).wf = true) : 0 ≤ z ∧ z ≤ 65535 := by
  have e1 : IntKind.u16.min = 0 := by decide
  have e2 : IntKind.u16.max = 65535 := by decide
  simpa [Lit.wf, e1, e2] using h
end Go.Proofs.Ytnaafjdnmbajjaa
/- Layer 30: JitterRuns: regions. -/
namespace Go.Proofs.Ytnaafjdnmbajjaa
open Go.RowKit
set_option linter.unusedVariables false
set_option linter.unusedSimpArgs false
attribute [local go_sem ↓] run_min_plain run_max_plain
attribute [local go_sem] setCell_drewN alloc_drewN
noncomputable def rr11_code : Code := ((Try.f4.body.bind (findRegJ 11)).getD .skip)
set_option maxRecDepth 100000 in
set_option maxHeartbeats 12800000 in
theorem rr11_wp {q0 q1 q2 q3 q4 q6 q7 q8 q10 q11 q12 q13 q14 q15 q16 q17 q18 q19 q20 q21 q22 q23 q24 q25 q26 q27 q28 q29 q30 q31 q32 q33 q34 q35 q36 q37 q38 q39 q40 q41 q42 q43 q44 q45 q46 q47 q48 q49 q50 q51 q52 q53 q54 q55 q56 q57 q58 q59 q60 q61 q62 q63 q64 q65 q66 q67 q68 q69 q70 q71 q72 q73 q74 q75 q76 q77 q78 q79 q80 q81 q82 q83 q84 q85 q86 q87 q88 q89 q90 q91 q92 q93 q94 q95 q96 q97 q98 q99 q100 q101 q102 q103 q104 q105 q106 q107 q108 q109 q110 q111 q112 q113 q114 q115 q116 q117 q118 q119 q120 q121 q122 q123 q124 q125 q126 q127 q128 q129 q130 q131 q132 q133 q134 q135 q136 q137 q138 q139 q140 q141 q142 q143 q144 q145 q146 q147 q148 q149 q150 q151 q152 q153 q154 q155 q156 q157 q158 q159 q160 q161 q162 q163 q164 : Value} {Q : Exit → Act → World → Prop} (w W : World) (g c : Nat) (s s1 : Jb.Jt) (A : Option Addr) (l : List TW) (lp : List Jb.Wt) (now : Int) (SB : SBox W g s A c l) (UW : Bel w W) (hl : l.length ≤ 1000) (hks : ∀ x ∈ s.q, I64 x.m.sq) (hrun : Jb.run s now = (s1, lp, 0))
    (h : ∀ (wx : World) (g2 : Nat) (A3 : Option Addr) (c3 : Nat) (l3 : List TW) (A4 : Option Addr) (c4 : Nat) (l4 : List TW) (u81 u82 u83 u84 u85 u86 u87 : Value), l3.map TW.w = lp → Hid (Wts wx wx.heap.size A3 l3) → W.heap.size ≤ g2 → Hid (Below W.heap.size W wx) → Hid (SBox wx g2 s1 A4 c4 l4) → Hid (Bel w wx) → Q .normal ⟨#[q0, q1, q2, q3, q4, .pointer (some ⟨g, 0, none⟩), q6, q7, q8, .int .i64 now, q10, .pointer (some ⟨g2, 0, none⟩), .slice A3 lp.length c3, .int .u8 0, q14, q15, q16, q17, q18, q19, q20, q21, q22, q23, q24, q25, q26, q27, q28, q29, q30, q31, q32, q33, q34, q35, q36, q37, q38, q39, q40, q41, q42, q43, q44, q45, q46, q47, q48, q49, q50, q51, q52, q53, q54, q55, q56, q57, q58, q59, q60, q61, q62, q63, q64, q65, q66, q67, q68, q69, q70, q71, q72, q73, q74, q75, q76, q77, q78, q79, q80, u81, u82, u83, u84, u85, u86, u87, q88, q89, q90, q91, q92, q93, q94, q95, q96, q97, q98, q99, q100, q101, q102, q103, q104, q105, q106, q107, q108, q109, q110, q111, q112, q113, q114, q115, q116, q117, q118, q119, q120, q121, q122, q123, q124, q125, q126, q127, q128, q129, q130, q131, q132, q133, q134, q135, q136, q137, q138, q139, q140, q141, q142, q143, q144, q145, q146, q147, q148, q149, q150, q151, q152, q153, q154, q155, q156, q157, q158, q159, q160, q161, q162, q163, q164], []⟩ wx) : Code.wp Try.prog rr11_code Q ⟨#[q0, q1, q2, q3, q4, .pointer (some ⟨g, 0, none⟩), q6, q7, q8, .int .i64 now, q10, q11, q12, q13, q14, q15, q16, q17, q18, q19, q20, q21, q22, q23, q24, q25, q26, q27, q28, q29, q30, q31, q32, q33, q34, q35, q36, q37, q38, q39, q40, q41, q42, q43, q44, q45, q46, q47, q48, q49, q50, q51, q52, q53, q54, q55, q56, q57, q58, q59, q60, q61, q62, q63, q64, q65, q66, q67, q68, q69, q70, q71, q72, q73, q74, q75, q76, q77, q78, q79, q80, q81, q82, q83, q84, q85, q86, q87, q88, q89, q90, q91, q92, q93, q94, q95, q96, q97, q98, q99, q100, q101, q102, q103, q104, q105, q106, q107, q108, q109, q110, q111, q112, q113, q114, q115, q116, q117, q118, q119, q120, q121, q122, q123, q124, q125, q126, q127, q128, q129, q130, q131, q132, q133, q134, q135, q136, q137, q138, q139, q140, q141, q142, q143, q144, q145, q146, q147, q148, q149, q150, q151, q152, q153, q154, q155, q156, q157, q158, q159, q160, q161, q162, q163, q164], []⟩ W := by
  obtain ⟨b0, b1, b2, b3, b4, b5, b6, b7, b8, b9, b10, b11, b12, b13⟩ := Blk.c14 SB.blk
  have hgl := SB.blk.lt
  have k := Lib.hid (jrun_st s A l l.length c now W SB.q rfl (by omega) SB.cap SB.cm SB.wts (keys_small SB.q hks))
  have HRUN := Lib.hid hrun
  have HS := Lib.hid SB
  have HU := Lib.hid UW
  clear hrun hks SB UW
  conv => arg 2; whnf
  go_wp2_with fail
  refine k.out.mono ?_
  rintro e wp hjr
  obtain ⟨A3, c3, l3, A4, c4, l4, rfl, h1, h2, h3, h4, h5, h6, hbp⟩ := run_e HRUN.out hjr
  simp only [JL]
  clear b0 b1 b2 b3 b4 b5 b6 b7 b8 b9 b10 b11 b12 b13
  have hsx : SBox (wp.alloc (.cells (JL s1 A4 l4.length c4).toArray 26)) wp.heap.size s1 A4 c4 l4 := SBox.new h2 h5 h6 h4
  have hux : Bel w (wp.alloc (.cells (JL s1 A4 l4.length c4).toArray 26)) := Bel.push (HU.out.later hbp) _
  have hbx : Below W.heap.size W (wp.alloc (.cells (JL s1 A4 l4.length c4).toArray 26)) := Bel.push hbp _
  have hwx : Wts (wp.alloc (.cells (JL s1 A4 l4.length c4).toArray 26)) (wp.alloc (.cells (JL s1 A4 l4.length c4).toArray 26)).heap.size A3 l3 := h3.push _
  have hgs : W.heap.size ≤ wp.heap.size := hbp.size
  simp only [JL] at hsx hux hbx hwx
  have HSX := Lib.hid hsx
  have HUX := Lib.hid hux
  have HBX := Lib.hid hbx
  have HWX := Lib.hid hwx
  have hl3 : l3.length = lp.length := map_len h1
  rw [hl3]
  have HM := Lib.hid h1
  clear hsx hux hbx hwx hbp hjr h1 h2 h3 h4 h5 h6 hl3
  go_wp2_with fail
  exact h _ wp.heap.size A3 c3 l3 A4 c4 l4 _ _ _ _ _ _ _ HM.out HWX hgs HBX HSX HUX
noncomputable def rr12_code : Code := ((Try.f4.body.bind (findRegJ 12)).getD .skip)
set_option maxRecDepth 100000 in
set_option maxHeartbeats 12800000 in
theorem rr12_wp {q0 q1 q2 q3 q4 q5 q6 q8 q10 q11 q12 q13 q14 q15 q16 q17 q18 q19 q20 q21 q22 q23 q24 q25 q26 q27 q28 q29 q30 q31 q32 q33 q34 q35 q36 q37 q38 q39 q40 q41 q42 q43 q44 q45 q46 q47 q48 q49 q50 q51 q52 q53 q54 q55 q56 q57 q58 q59 q60 q61 q62 q63 q64 q65 q66 q67 q68 q69 q70 q71 q72 q73 q74 q75 q76 q77 q78 q79 q80 q81 q82 q83 q84 q85 q86 q87 q88 q89 q90 q91 q92 q93 q94 q95 q96 q97 q98 q99 q100 q101 q102 q103 q104 q105 q106 q107 q108 q109 q110 q111 q112 q113 q114 q115 q116 q117 q118 q119 q120 q121 q122 q123 q124 q125 q126 q127 q128 q129 q130 q131 q132 q133 q134 q135 q136 q137 q138 q139 q140 q141 q142 q143 q144 q145 q146 q147 q148 q149 q150 q151 q152 q153 q154 q155 q156 q157 q158 q159 q160 q161 q162 q163 q164 : Value} {Q : Exit → Act → World → Prop} (w W : World) (g c : Nat) (s s1 : Jb.Jt) (A : Option Addr) (l : List TW) (lp : List Jb.Wt) (now : Int) (SB : SBox W g s A c l) (UW : Bel w W) (hl : l.length ≤ 1000) (hks : ∀ x ∈ s.q, x.m.pl.length ≤ 1000000000) (hrun : Jb.run s now = (s1, lp, 0))
    (h : ∀ (wx : World) (g2 : Nat) (A3 : Option Addr) (c3 : Nat) (l3 : List TW) (A4 : Option Addr) (c4 : Nat) (l4 : List TW) (u88 u89 u90 u91 u92 u93 u94 : Value), l3.map TW.w = lp → Hid (Wts wx wx.heap.size A3 l3) → W.heap.size ≤ g2 → Hid (Below W.heap.size W wx) → Hid (SBox wx g2 s1 A4 c4 l4) → Hid (Bel w wx) → Q .normal ⟨#[q0, q1, q2, q3, q4, q5, q6, .pointer (some ⟨g, 0, none⟩), q8, .int .i64 now, q10, q11, q12, q13, .pointer (some ⟨g2, 0, none⟩), .slice A3 lp.length c3, .int .u8 0, q17, q18, q19, q20, q21, q22, q23, q24, q25, q26, q27, q28, q29, q30, q31, q32, q33, q34, q35, q36, q37, q38, q39, q40, q41, q42, q43, q44, q45, q46, q47, q48, q49, q50, q51, q52, q53, q54, q55, q56, q57, q58, q59, q60, q61, q62, q63, q64, q65, q66, q67, q68, q69, q70, q71, q72, q73, q74, q75, q76, q77, q78, q79, q80, q81, q82, q83, q84, q85, q86, q87, u88, u89, u90, u91, u92, u93, u94, q95, q96, q97, q98, q99, q100, q101, q102, q103, q104, q105, q106, q107, q108, q109, q110, q111, q112, q113, q114, q115, q116, q117, q118, q119, q120, q121, q122, q123, q124, q125, q126, q127, q128, q129, q130, q131, q132, q133, q134, q135, q136, q137, q138, q139, q140, q141, q142, q143, q144, q145, q146, q147, q148, q149, q150, q151, q152, q153, q154, q155, q156, q157, q158, q159, q160, q161, q162, q163, q164], []⟩ wx) : Code.wp Try.prog rr12_code Q ⟨#[q0, q1, q2, q3, q4, q5, q6, .pointer (some ⟨g, 0, none⟩), q8, .int .i64 now, q10, q11, q12, q13, q14, q15, q16, q17, q18, q19, q20, q21, q22, q23, q24, q25, q26, q27, q28, q29, q30, q31, q32, q33, q34, q35, q36, q37, q38, q39, q40, q41, q42, q43, q44, q45, q46, q47, q48, q49, q50, q51, q52, q53, q54, q55, q56, q57, q58, q59, q60, q61, q62, q63, q64, q65, q66, q67, q68, q69, q70, q71, q72, q73, q74, q75, q76, q77, q78, q79, q80, q81, q82, q83, q84, q85, q86, q87, q88, q89, q90, q91, q92, q93, q94, q95, q96, q97, q98, q99, q100, q101, q102, q103, q104, q105, q106, q107, q108, q109, q110, q111, q112, q113, q114, q115, q116, q117, q118, q119, q120, q121, q122, q123, q124, q125, q126, q127, q128, q129, q130, q131, q132, q133, q134, q135, q136, q137, q138, q139, q140, q141, q142, q143, q144, q145, q146, q147, q148, q149, q150, q151, q152, q153, q154, q155, q156, q157, q158, q159, q160, q161, q162, q163, q164], []⟩ W := by
  obtain ⟨b0, b1, b2, b3, b4, b5, b6, b7, b8, b9, b10, b11, b12, b13⟩ := Blk.c14 SB.blk
  have hgl := SB.blk.lt
  have k := Lib.hid (rrun_st s A l l.length c now W SB.q rfl (by omega) SB.cap SB.cm SB.wts (fun a ha => hks a.w (by rw [← SB.q]; exact List.mem_map.2 ⟨a, ha, rfl⟩)))
  have HRUN := Lib.hid hrun
  have HS := Lib.hid SB
  have HU := Lib.hid UW
  clear hrun hks SB UW
  conv => arg 2; whnf
  go_wp2_with fail
  refine k.out.mono ?_
  rintro e wp hjr
  obtain ⟨A3, c3, l3, A4, c4, l4, rfl, h1, h2, h3, h4, h5, h6, hbp⟩ := run_e HRUN.out hjr
  simp only [JL]
  clear b0 b1 b2 b3 b4 b5 b6 b7 b8 b9 b10 b11 b12 b13
  have hsx : SBox (wp.alloc (.cells (JL s1 A4 l4.length c4).toArray 26)) wp.heap.size s1 A4 c4 l4 := SBox.new h2 h5 h6 h4
  have hux : Bel w (wp.alloc (.cells (JL s1 A4 l4.length c4).toArray 26)) := Bel.push (HU.out.later hbp) _
  have hbx : Below W.heap.size W (wp.alloc (.cells (JL s1 A4 l4.length c4).toArray 26)) := Bel.push hbp _
  have hwx : Wts (wp.alloc (.cells (JL s1 A4 l4.length c4).toArray 26)) (wp.alloc (.cells (JL s1 A4 l4.length c4).toArray 26)).heap.size A3 l3 := h3.push _
  have hgs : W.heap.size ≤ wp.heap.size := hbp.size
  simp only [JL] at hsx hux hbx hwx
  have HSX := Lib.hid hsx
  have HUX := Lib.hid hux
  have HBX := Lib.hid hbx
  have HWX := Lib.hid hwx
  have hl3 : l3.length = lp.length := map_len h1
  rw [hl3]
  have HM := Lib.hid h1
  clear hsx hux hbx hwx hbp hjr h1 h2 h3 h4 h5 h6 hl3
  go_wp2_with fail
  exact h _ wp.heap.size A3 c3 l3 A4 c4 l4 _ _ _ _ _ _ _ HM.out HWX hgs HBX HSX HUX
end Go.Proofs.Ytnaafjdnmbajjaa
/- Layer 30: JitterRuns: regions. -/
namespace Go.Proofs.Ytnaafjdnmbajjaa
open Go.RowKit
set_option linter.unusedVariables false
set_option linter.unusedSimpArgs false
attribute [local go_sem ↓] run_min_plain run_max_plain
attribute [local go_sem] setCell_drewN alloc_drewN
noncomputable def rr13_code : Code := ((Try.f4.body.bind (findRegJ 13)).getD .skip)
set_option maxRecDepth 100000 in
set_option maxHeartbeats 12800000 in
theorem rr13_wp {q0 q1 q2 q3 q4 q5 q6 q7 q8 q9 q10 q16 q17 q18 q19 q20 q21 q22 q23 q24 q25 q26 q27 q28 q29 q30 q31 q32 q33 q34 q35 q36 q37 q38 q39 q40 q41 q42 q43 q44 q45 q46 q47 q48 q49 q50 q51 q52 q53 q54 q55 q56 q57 q58 q59 q60 q61 q62 q63 q64 q65 q66 q67 q68 q69 q70 q71 q72 q73 q74 q75 q76 q77 q78 q79 q80 q81 q82 q83 q84 q85 q86 q87 q88 q89 q90 q91 q92 q93 q94 q95 q96 q97 q98 q99 q100 q101 q102 q103 q104 q105 q106 q107 q108 q109 q110 q111 q112 q113 q114 q115 q116 q117 q118 q119 q120 q121 q122 q123 q124 q125 q126 q127 q128 q129 q130 q131 q132 q133 q134 q135 q136 q137 q138 q139 q140 q141 q142 q143 q144 q145 q146 q147 q148 q149 q150 q151 q152 q153 q154 q155 q156 q157 q158 q159 q160 q161 q162 q163 q164 : Value} {Q : Exit → Act → World → Prop} (W : World) (ga gb c4 c6 c3 c5 : Nat) (s1 : Jb.Jt) (A4 A6 A3 A5 : Option Addr) (l4 l6 l3 l5 : List TW) (lp : List Jb.Wt) (vd er : Int) (SA : SBox W ga s1 A4 c4 l4) (SC : SBox W gb s1 A6 c6 l6) (hp : Wts W W.heap.size A3 l3) (hr : Wts W W.heap.size A5 l5) (hm3 : l3.map TW.w = lp) (hm5 : l5.map TW.w = lp) (hq1 : s1.q.length ≤ 1000) (hdl : lp.length ≤ 1000)
    (h : ∀ (wx : World) (u95 u96 u97 u98 u99 u100 u101 u102 u103 u104 u105 u106 u107 : Value), Hid (Below W.heap.size W wx) → Q .normal ⟨#[q0, q1, q2, q3, q4, q5, q6, q7, q8, q9, q10, .pointer (some ⟨ga, 0, none⟩), .slice A3 lp.length c3, .int .u8 0, .pointer (some ⟨gb, 0, none⟩), .slice A5 lp.length c5, q16, q17, q18, q19, q20, q21, q22, q23, q24, q25, q26, q27, q28, q29, q30, q31, q32, q33, q34, q35, q36, q37, q38, q39, q40, q41, q42, q43, q44, q45, q46, q47, q48, q49, q50, q51, q52, q53, q54, q55, q56, q57, q58, q59, q60, q61, q62, q63, q64, q65, q66, q67, q68, q69, q70, q71, q72, q73, q74, q75, q76, q77, q78, q79, q80, q81, q82, q83, q84, q85, q86, q87, q88, q89, q90, q91, q92, q93, q94, u95, u96, u97, u98, u99, u100, u101, u102, u103, u104, u105, u106, u107, .bool false, q109, q110, q111, q112, q113, q114, q115, q116, q117, q118, q119, q120, q121, q122, q123, q124, q125, q126, q127, q128, q129, q130, q131, q132, q133, q134, q135, q136, q137, q138, q139, q140, q141, q142, q143, q144, q145, q146, q147, q148, q149, q150, q151, q152, q153, q154, q155, q156, q157, q158, q159, q160, q161, q162, q163, q164], []⟩ wx) : Code.wp Try.prog rr13_code Q ⟨#[q0, q1, q2, q3, q4, q5, q6, q7, q8, q9, q10, .pointer (some ⟨ga, 0, none⟩), .slice A3 lp.length c3, .int .u8 0, .pointer (some ⟨gb, 0, none⟩), .slice A5 lp.length c5, q16, q17, q18, q19, q20, q21, q22, q23, q24, q25, q26, q27, q28, q29, q30, q31, q32, q33, q34, q35, q36, q37, q38, q39, q40, q41, q42, q43, q44, q45, q46, q47, q48, q49, q50, q51, q52, q53, q54, q55, q56, q57, q58, q59, q60, q61, q62, q63, q64, q65, q66, q67, q68, q69, q70, q71, q72, q73, q74, q75, q76, q77, q78, q79, q80, q81, q82, q83, q84, q85, q86, q87, q88, q89, q90, q91, q92, q93, q94, q95, q96, q97, q98, q99, q100, q101, q102, q103, q104, q105, q106, q107, q108, q109, q110, q111, q112, q113, q114, q115, q116, q117, q118, q119, q120, q121, q122, q123, q124, q125, q126, q127, q128, q129, q130, q131, q132, q133, q134, q135, q136, q137, q138, q139, q140, q141, q142, q143, q144, q145, q146, q147, q148, q149, q150, q151, q152, q153, q154, q155, q156, q157, q158, q159, q160, q161, q162, q163, q164], []⟩ W := by
  have hla := SA.blk.lt
  have hlb := SC.blk.lt
  have HA := Lib.hid SA
  have HC := Lib.hid SC
  have HP := Lib.hid hp
  have HR := Lib.hid hr
  have HM3 := Lib.hid hm3
  have HM5 := Lib.hid hm5
  have HB := Lib.hid (Below.refl W.heap.size W)
  clear SA SC hp hr hm3 hm5
  conv => arg 2; whnf
  obtain ⟨x0, x1, x2, x3, x4, x5, x6, x7, x8, x9, x10, x11, x12, x13⟩ := Blk.c14 HA.out.blk
  rw [map_len HA.out.q] at x10
  obtain ⟨y0, y1, y2, y3, y4, y5, y6, y7, y8, y9, y10, y11, y12, y13⟩ := Blk.c14 HC.out.blk
  rw [map_len HC.out.q] at y10
  go_wp2_with fail
  clear x0 x1 x2 x3 x4 x5 x6 x7 x8 x9 x10 x11 x12 x13 y0 y1 y2 y3 y4 y5 y6 y7 y8 y9 y10 y11 y12 y13
  refine (rsame_any s1 A4 A6 l4 l6 s1.q.length c4 c6 _ (map_len HA.out.q) (HA.out.q.trans HC.out.q.symm) (by omega) HA.out.wts HC.out.wts).mono ?_
  rintro e w6 ⟨rfl, hb6⟩
  replace HA := Lib.hid (HA.out.later hb6)
  replace HC := Lib.hid (HC.out.later hb6)
  replace HP := Lib.hid (HP.out.later hb6)
  replace HR := Lib.hid (HR.out.later hb6)
  replace HB := Lib.hid (below_old' hb6 HB.out)
  clear hb6
  go_wp2_with fail
  refine (rsw_any A3 A5 l3 l5 lp.length c3 c5 _ (map_len HM3.out) (HM3.out.trans HM5.out.symm) (by omega) HP.out HR.out).mono ?_
  rintro e w7 ⟨rfl, hb7⟩
  replace HA := Lib.hid (HA.out.later hb7)
  replace HC := Lib.hid (HC.out.later hb7)
  replace HP := Lib.hid (HP.out.later hb7)
  replace HR := Lib.hid (HR.out.later hb7)
  replace HB := Lib.hid (below_old' hb7 HB.out)
  clear hb7
  go_wp2_with fail
  first
    | exact HB
    | exact h _ _ _ _ _ _ _ _ _ _ _ _ _ _ HB
noncomputable def rr19_code : Code := ((Try.f4.body.bind (findRegJ 19)).getD .skip)
set_option maxRecDepth 100000 in
set_option maxHeartbeats 12800000 in
theorem rr19_wp {q0 q1 q2 q3 q4 q5 q6 q7 q8 q9 q10 q11 q12 q13 q14 q15 q16 q25 q26 q27 q28 q29 q30 q31 q32 q33 q34 q35 q36 q37 q38 q39 q40 q41 q42 q43 q44 q45 q46 q47 q48 q49 q50 q51 q52 q53 q54 q55 q56 q57 q58 q59 q60 q61 q62 q63 q64 q65 q66 q67 q68 q69 q70 q71 q72 q73 q74 q75 q76 q77 q78 q79 q80 q81 q82 q83 q84 q85 q86 q87 q88 q89 q90 q91 q92 q93 q94 q95 q96 q97 q98 q99 q100 q101 q102 q103 q104 q105 q106 q107 q108 q109 q110 q111 q112 q113 q114 q115 q116 q117 q118 q119 q120 q121 q122 q123 q124 q125 q126 q127 q128 q129 q130 q131 q132 q133 q134 q135 q136 q137 q138 q139 q140 q141 q142 q143 q144 q145 q146 q147 q148 q149 q150 q151 q152 q153 q154 q155 q156 q157 q158 q159 q160 q161 q162 q163 q164 : Value} {Q : Exit → Act → World → Prop} (W : World) (ga gb c4 c6 c3 c5 : Nat) (s1 : Jb.Jt) (A4 A6 A3 A5 : Option Addr) (l4 l6 l3 l5 : List TW) (lp : List Jb.Wt) (vd er : Int) (SA : SBox W ga s1 A4 c4 l4) (SC : SBox W gb s1 A6 c6 l6) (hp : Wts W W.heap.size A3 l3) (hr : Wts W W.heap.size A5 l5) (hm3 : l3.map TW.w = lp) (hm5 : l5.map TW.w = lp) (hq1 : s1.q.length ≤ 1000) (hdl : lp.length ≤ 1000)
    (h : ∀ (wx : World) (u137 u138 u139 u140 u141 u142 u143 u144 u145 u146 u147 u148 u149 u150 u151 u152 u153 u154 u155 : Value), Hid (Below W.heap.size W wx) → Q .normal ⟨#[q0, q1, q2, q3, q4, q5, q6, q7, q8, q9, q10, q11, q12, q13, q14, q15, q16, .pointer (some ⟨ga, 0, none⟩), .slice A3 lp.length c3, .int .u8 vd, .int .u8 er, .pointer (some ⟨gb, 0, none⟩), .slice A5 lp.length c5, .int .u8 vd, .int .u8 er, q25, q26, q27, q28, q29, q30, q31, q32, q33, q34, q35, q36, q37, q38, q39, q40, q41, q42, q43, q44, q45, q46, q47, q48, q49, q50, q51, q52, q53, q54, q55, q56, q57, q58, q59, q60, q61, q62, q63, q64, q65, q66, q67, q68, q69, q70, q71, q72, q73, q74, q75, q76, q77, q78, q79, q80, q81, q82, q83, q84, q85, q86, q87, q88, q89, q90, q91, q92, q93, q94, q95, q96, q97, q98, q99, q100, q101, q102, q103, q104, q105, q106, q107, q108, q109, q110, q111, q112, q113, q114, q115, q116, q117, q118, q119, q120, q121, q122, q123, q124, q125, q126, q127, q128, q129, q130, q131, q132, q133, q134, q135, q136, u137, u138, u139, u140, u141, u142, u143, u144, u145, u146, u147, u148, u149, u150, u151, u152, u153, u154, u155, .bool false, q157, q158, q159, q160, q161, q162, q163, q164], []⟩ wx) : Code.wp Try.prog rr19_code Q ⟨#[q0, q1, q2, q3, q4, q5, q6, q7, q8, q9, q10, q11, q12, q13, q14, q15, q16, .pointer (some ⟨ga, 0, none⟩), .slice A3 lp.length c3, .int .u8 vd, .int .u8 er, .pointer (some ⟨gb, 0, none⟩), .slice A5 lp.length c5, .int .u8 vd, .int .u8 er, q25, q26, q27, q28, q29, q30, q31, q32, q33, q34, q35, q36, q37, q38, q39, q40, q41, q42, q43, q44, q45, q46, q47, q48, q49, q50, q51, q52, q53, q54, q55, q56, q57, q58, q59, q60, q61, q62, q63, q64, q65, q66, q67, q68, q69, q70, q71, q72, q73, q74, q75, q76, q77, q78, q79, q80, q81, q82, q83, q84, q85, q86, q87, q88, q89, q90, q91, q92, q93, q94, q95, q96, q97, q98, q99, q100, q101, q102, q103, q104, q105, q106, q107, q108, q109, q110, q111, q112, q113, q114, q115, q116, q117, q118, q119, q120, q121, q122, q123, q124, q125, q126, q127, q128, q129, q130, q131, q132, q133, q134, q135, q136, q137, q138, q139, q140, q141, q142, q143, q144, q145, q146, q147, q148, q149, q150, q151, q152, q153, q154, q155, q156, q157, q158, q159, q160, q161, q162, q163, q164], []⟩ W := by
  have hla := SA.blk.lt
  have hlb := SC.blk.lt
  have HA := Lib.hid SA
  have HC := Lib.hid SC
  have HP := Lib.hid hp
  have HR := Lib.hid hr
  have HM3 := Lib.hid hm3
  have HM5 := Lib.hid hm5
  have HB := Lib.hid (Below.refl W.heap.size W)
  clear SA SC hp hr hm3 hm5
  conv => arg 2; whnf
  go_wp2_with fail
  refine (rsw_any A3 A5 l3 l5 lp.length c3 c5 _ (map_len HM3.out) (HM3.out.trans HM5.out.symm) (by omega) HP.out HR.out).mono ?_
  rintro e w7 ⟨rfl, hb7⟩
  replace HA := Lib.hid (HA.out.later hb7)
  replace HC := Lib.hid (HC.out.later hb7)
  replace HP := Lib.hid (HP.out.later hb7)
  replace HR := Lib.hid (HR.out.later hb7)
  replace HB := Lib.hid (below_old' hb7 HB.out)
  clear hb7
  obtain ⟨x0, x1, x2, x3, x4, x5, x6, x7, x8, x9, x10, x11, x12, x13⟩ := Blk.c14 HA.out.blk
  rw [map_len HA.out.q] at x10
  obtain ⟨y0, y1, y2, y3, y4, y5, y6, y7, y8, y9, y10, y11, y12, y13⟩ := Blk.c14 HC.out.blk
  rw [map_len HC.out.q] at y10
  go_wp2_with fail
  clear x0 x1 x2 x3 x4 x5 x6 x7 x8 x9 x10 x11 x12 x13 y0 y1 y2 y3 y4 y5 y6 y7 y8 y9 y10 y11 y12 y13
  refine (rsame_any s1 A4 A6 l4 l6 s1.q.length c4 c6 _ (map_len HA.out.q) (HA.out.q.trans HC.out.q.symm) (by omega) HA.out.wts HC.out.wts).mono ?_
  rintro e w6 ⟨rfl, hb6⟩
  replace HA := Lib.hid (HA.out.later hb6)
  replace HC := Lib.hid (HC.out.later hb6)
  replace HP := Lib.hid (HP.out.later hb6)
  replace HR := Lib.hid (HR.out.later hb6)
  replace HB := Lib.hid (below_old' hb6 HB.out)
  clear hb6
  go_wp2_with fail
  first
    | exact HB
    | exact h _ _ _ _ _ _ _ _ _ _ _ _ _ _ _ _ _ _ _ _ HB
end Go.Proofs.Ytnaafjdnmbajjaa

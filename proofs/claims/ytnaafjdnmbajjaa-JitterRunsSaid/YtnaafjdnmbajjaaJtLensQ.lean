/- Layer 30: how long the lists are that Put and Run leave; what they leave, in numbers. -/
import Derived.Test.YtnaafjdnmbajjaaJtPutG0Q
import Derived.Test.YtnaafjdnmbajjaaJtNewQ
import Derived.Test.YtnaafjdnmbajjaaJtMeas3Q
import Derived.Test.YtnaafjdnmbajjaaJtRValidQ
import Derived.Test.YtnaafjdnmbajjaaMemQ
import Derived.Deep.RegionHeld3
import Derived.BigQuiet
import Derived.Deep.QuietTactic
namespace Go.Proofs.Ytnaafjdnmbajjaa
open Go.RowKit
set_option linter.unusedVariables false
theorem dl_len (now : Int) (q : List Jb.Wt) : (Jb.due now q).length ≤ q.length ∧ (Jb.left now q).length ≤ q.length := by
  have h := congrArg List.length (Jb.due_left now q)
  simp only [List.length_append] at h
  omega
theorem run_len (s : Jb.Jt) (now : Int) : (Jb.run s now).2.1.length ≤ s.q.length ∧ (Jb.run s now).1.q.length ≤ s.q.length := by
  obtain ⟨h1, h2⟩ := dl_len now s.q
  unfold Jb.run
  split
  · exact ⟨h1, h2⟩
  · exact ⟨Nat.zero_le _, Nat.zero_le _⟩
theorem ins_len (q : List Jb.Wt) (w : Jb.Wt) : (Jb.ins q w).length = q.length + 1 := by
  have h := congrArg List.length (List.takeWhile_append_dropWhile (p := fun x => decide (Jb.bef x w)) (l := q))
  unfold Jb.ins
  simp only [List.length_append, List.length_cons] at h ⊢
  omega
theorem put0_len (s : Jb.Jt) (m : Jb.Md) : (Jb.put0 s m).1.q.length ≤ s.q.length + 1 := by
  have hq := (Jb.meas_q s m).1
  unfold Jb.put0
  split
  · exact Nat.le_succ _
  · split
    · exact Nat.le_succ _
    · split
      · exact Nat.le_succ _
      · dsimp only
        split
        · show (Jb.meas s m).q.length ≤ _
          rw [hq]; exact Nat.le_succ _
        · split
          · rw [hq]; exact Nat.le_succ _
          · show (Jb.ins (Jb.meas s m).q _).length ≤ _
            rw [ins_len, hq]; exact Nat.le_refl _
theorem put_len (s : Jb.Jt) (now : Int) (m : Jb.Md) : (Jb.put s now m).2.1.length ≤ s.q.length ∧ (Jb.put s now m).1.q.length ≤ s.q.length + 1 := by
  obtain ⟨h1, h2⟩ := dl_len now s.q
  have h3 := put0_len (Jb.run0 s now) m
  have h4 : (Jb.run0 s now).q.length ≤ s.q.length := h2
  unfold Jb.put
  split
  · exact ⟨h1, by show (Jb.put0 (Jb.run0 s now) m).1.q.length ≤ _; omega⟩
  · exact ⟨Nat.zero_le _, Nat.zero_le _⟩
/-- what Put leaves, its lengths as numbers of the plain lists -/
def JPutN (s : Jb.Jt) (pl : List Jb.Wt) (v er : Int) (w : World) (e : Ending) (w' : World) : Prop :=
  ∃ (A1 : Option Addr) (c1 : Nat) (l1 : List TW) (A2 : Option Addr) (c2 : Nat) (l2 : List TW), e = .returned (.tuple #[JV s A2 s.q.length c2, .slice A1 pl.length c1, .int .u8 v, .int .u8 er]) ∧ l1.map TW.w = pl ∧ l2.map TW.w = s.q ∧ Wts w' w'.heap.size A1 l1 ∧ Wts w' w'.heap.size A2 l2 ∧ s.q.length ≤ c2 ∧ c2 ≤ maxLen ∧ Below w.heap.size w w'
theorem JPutR.n {s : Jb.Jt} {now : Int} {m : Jb.Md} {w w' : World} {e : Ending} (h : JPutR s now m w e w') : JPutN (Jb.put s now m).1 (Jb.put s now m).2.1 (Jb.put s now m).2.2.1 (Jb.put s now m).2.2.2 w e w' := by
  obtain ⟨A1, c1, l1, A2, c2, l2, h1, h2, h3, h4, h5, h6, h7, h8⟩ := h
  have e1 : l1.length = (Jb.put s now m).2.1.length := by rw [← h2, List.length_map]
  have e2 : l2.length = (Jb.put s now m).1.q.length := by rw [← h3, List.length_map]
  rw [e1, e2] at h1
  rw [e2] at h6
  exact ⟨A1, c1, l1, A2, c2, l2, h1, h2, h3, h4, h5, h6, h7, h8⟩
/-- what Run leaves, so -/
def JRunN (s : Jb.Jt) (pl : List Jb.Wt) (er : Int) (w : World) (e : Ending) (w' : World) : Prop :=
  ∃ (A1 : Option Addr) (c1 : Nat) (l1 : List TW) (A2 : Option Addr) (c2 : Nat) (l2 : List TW), e = .returned (.tuple #[JV s A2 s.q.length c2, .slice A1 pl.length c1, .int .u8 er]) ∧ l1.map TW.w = pl ∧ l2.map TW.w = s.q ∧ Wts w' w'.heap.size A1 l1 ∧ Wts w' w'.heap.size A2 l2 ∧ s.q.length ≤ c2 ∧ c2 ≤ maxLen ∧ Below w.heap.size w w'
theorem JRunR.n {s : Jb.Jt} {now : Int} {w w' : World} {e : Ending} (h : JRunR s now w e w') : JRunN (Jb.run s now).1 (Jb.run s now).2.1 (Jb.run s now).2.2 w e w' := by
  obtain ⟨A1, c1, l1, A2, c2, l2, h1, h2, h3, h4, h5, h6, h7, h8⟩ := h
  have e1 : l1.length = (Jb.run s now).2.1.length := by rw [← h2, List.length_map]
  have e2 : l2.length = (Jb.run s now).1.q.length := by rw [← h3, List.length_map]
  rw [e1, e2] at h1
  rw [e2] at h6
  exact ⟨A1, c1, l1, A2, c2, l2, h1, h2, h3, h4, h5, h6, h7, h8⟩
theorem map_len {l : List TW} {q : List Jb.Wt} (h : l.map TW.w = q) : l.length = q.length := by rw [← h, List.length_map]
end Go.Proofs.Ytnaafjdnmbajjaa
/- Layer 30: JitterRuns: a region. -/
namespace Go.Proofs.Ytnaafjdnmbajjaa
open Go.RowKit
set_option linter.unusedVariables false
set_option linter.unusedSimpArgs false
attribute [local go_sem ↓] run_min_plain run_max_plain
attribute [local go_sem] setCell_drewN alloc_drewN
noncomputable def rg17_code : Code := ((Try.f4.body.bind (findRegJ 17)).getD .skip)
set_option maxRecDepth 100000 in
set_option maxHeartbeats 12800000 in
theorem rg17_wp {s0 s2 s3 s4 s6 s7 s8 s11 s12 s13 s14 s15 s16 s17 s18 s19 s20 s21 s22 s23 s24 s25 s26 s27 s28 s29 s30 s31 s32 s33 s34 s35 s36 s37 s38 s39 s40 s41 s42 s43 s44 s45 s46 s47 s48 s49 s50 s51 s52 s53 s54 s55 s56 s57 s58 s59 s60 s61 s62 s63 s64 s65 s66 s67 s68 s69 s70 s71 s72 s73 s74 s75 s76 s77 s78 s79 s80 s81 s82 s83 s84 s85 s86 s87 s88 s89 s90 s91 s92 s93 s94 s95 s96 s97 s98 s99 s100 s101 s102 s103 s104 s105 s106 s107 s108 s109 s110 s111 s112 s113 s114 s115 s116 s117 s118 s119 s120 s121 s122 s123 s124 s125 s126 s127 s128 s129 s130 s131 s132 s133 s134 s135 s136 s137 s138 s139 s140 s141 s142 s143 s144 s145 s146 s147 s148 s149 s150 s151 s152 s153 s154 s155 s156 s157 s158 s159 s160 s161 s162 s163 s164 : Value} {Q : Exit → Act → World → Prop} (w W : World) (g c : Nat) (s s' : Jb.Jt) (A : Option Addr) (l : List TW) (lp : List Jb.Wt) (v er : Int) (bL oL N cL : Nat) (now : Int) (i : Nat) (m : Jb.Md) (M : Option Addr) (mc : Nat) (SB : SBox W g s A c l) (UW : Bel w W) (hgw : w.heap.size ≤ g) (hl : l.length ≤ 1000) (hks : ∀ x ∈ s.q, I64 x.m.sq) (hput : Jb.put s now m = (s', lp, v, er)) (hiN : i < N) (hN : N ≤ 9223372036854775807) (hbL : bL < W.heap.size) (hm0 : W.cell? ⟨bL, oL + i * 7 + 2, none⟩ = some (.int .i64 m.sq)) (hm1 : W.cell? ⟨bL, oL + i * 7 + 3, none⟩ = some (.int .i64 m.ti)) (hm2 : W.cell? ⟨bL, oL + i * 7 + 4, none⟩ = some (.bool m.mrk)) (hm3 : W.cell? ⟨bL, oL + i * 7 + 5, none⟩ = some (.int .u8 m.ty)) (hm4 : W.cell? ⟨bL, oL + i * 7 + 6, none⟩ = some (.slice M m.pl.length mc)) (hmp : m.pl.length ≤ 100000) (hMI : IntsAt W W.heap.size .u8 M m.pl)
    (h : ∀ (wx : World) (g2 : Nat) (A3 : Option Addr) (c3 : Nat) (l3 : List TW) (A4 : Option Addr) (c4 : Nat) (l4 : List TW) (u111 u112 u113 u114 u115 u116 u117 u118 u119 u120 u121 u122 u123 : Value), l3.map TW.w = lp → Hid (Wts wx wx.heap.size A3 l3) → W.heap.size ≤ g2 → Hid (Below W.heap.size W wx) → Hid (SBox wx g2 s' A4 c4 l4) → Hid (Bel w wx) → Q .normal ⟨#[s0, .slice (some ⟨bL, oL, none⟩) N cL, s2, s3, s4, .pointer (some ⟨g, 0, none⟩), s6, s7, s8, .int .i64 now, .int .i64 (i : Int), s11, s12, s13, s14, s15, s16, .pointer (some ⟨g2, 0, none⟩), .slice A3 lp.length c3, .int .u8 v, .int .u8 er, s21, s22, s23, s24, s25, s26, s27, s28, s29, s30, s31, s32, s33, s34, s35, s36, s37, s38, s39, s40, s41, s42, s43, s44, s45, s46, s47, s48, s49, s50, s51, s52, s53, s54, s55, s56, s57, s58, s59, s60, s61, s62, s63, s64, s65, s66, s67, s68, s69, s70, s71, s72, s73, s74, s75, s76, s77, s78, s79, s80, s81, s82, s83, s84, s85, s86, s87, s88, s89, s90, s91, s92, s93, s94, s95, s96, s97, s98, s99, s100, s101, s102, s103, s104, s105, s106, s107, s108, s109, s110, u111, u112, u113, u114, u115, u116, u117, u118, u119, u120, u121, u122, u123, s124, s125, s126, s127, s128, s129, s130, s131, s132, s133, s134, s135, s136, s137, s138, s139, s140, s141, s142, s143, s144, s145, s146, s147, s148, s149, s150, s151, s152, s153, s154, s155, s156, s157, s158, s159, s160, s161, s162, s163, s164], []⟩ wx) : Code.wp Try.prog rg17_code Q ⟨#[s0, .slice (some ⟨bL, oL, none⟩) N cL, s2, s3, s4, .pointer (some ⟨g, 0, none⟩), s6, s7, s8, .int .i64 now, .int .i64 (i : Int), s11, s12, s13, s14, s15, s16, s17, s18, s19, s20, s21, s22, s23, s24, s25, s26, s27, s28, s29, s30, s31, s32, s33, s34, s35, s36, s37, s38, s39, s40, s41, s42, s43, s44, s45, s46, s47, s48, s49, s50, s51, s52, s53, s54, s55, s56, s57, s58, s59, s60, s61, s62, s63, s64, s65, s66, s67, s68, s69, s70, s71, s72, s73, s74, s75, s76, s77, s78, s79, s80, s81, s82, s83, s84, s85, s86, s87, s88, s89, s90, s91, s92, s93, s94, s95, s96, s97, s98, s99, s100, s101, s102, s103, s104, s105, s106, s107, s108, s109, s110, s111, s112, s113, s114, s115, s116, s117, s118, s119, s120, s121, s122, s123, s124, s125, s126, s127, s128, s129, s130, s131, s132, s133, s134, s135, s136, s137, s138, s139, s140, s141, s142, s143, s144, s145, s146, s147, s148, s149, s150, s151, s152, s153, s154, s155, s156, s157, s158, s159, s160, s161, s162, s163, s164], []⟩ W := by
  have hi0 : (0 : Int) ≤ (i : Int) := by omega
  have hi1 : (i : Int) < (N : Int) := by omega
  have hU : Below W.heap.size W W := Below.refl _ _
  obtain ⟨b0, b1, b2, b3, b4, b5, b6, b7, b8, b9, b10, b11, b12, b13⟩ := Blk.c14 SB.blk
  have hgl := SB.blk.lt
  have HS := Lib.hid SB
  have HU := Lib.hid UW
  have HMI := Lib.hid hMI
  have HPUT := Lib.hid hput
  have HKS := Lib.hid hks
  clear SB UW hMI hput hks
  conv => arg 2; whnf
  refine wp_region_noPanic ?_
  refine wp_region_held_drew (S := fun w' => Below W.heap.size W w' ∧ w'.cell? ⟨g, 0, none⟩ = some (.int .i64 s.least) ∧ w'.cell? ⟨g, 1, none⟩ = some (.int .i64 s.most) ∧ w'.cell? ⟨g, 2, none⟩ = some (.int .i64 s.now) ∧ w'.cell? ⟨g, 3, none⟩ = some (.bool s.on) ∧ w'.cell? ⟨g, 4, none⟩ = some (.int .i64 s.zero) ∧ w'.cell? ⟨g, 5, none⟩ = some (.int .i64 s.first) ∧ w'.cell? ⟨g, 6, none⟩ = some (.int .i64 s.high) ∧ w'.cell? ⟨g, 7, none⟩ = some (.int .i64 s.done) ∧ w'.cell? ⟨g, 8, none⟩ = some (.int .i64 s.spread) ∧ w'.cell? ⟨g, 9, none⟩ = some (.int .i64 s.trans) ∧ w'.cell? ⟨g, 10, none⟩ = some (.slice A l.length c) ∧ w'.cell? ⟨g, 11, none⟩ = some (.int .i64 s.late) ∧ w'.cell? ⟨g, 12, none⟩ = some (.int .i64 s.twice) ∧ w'.cell? ⟨g, 13, none⟩ = some (.int .i64 s.played) ∧ w'.cell? ⟨bL, oL + i * 7 + 2, none⟩ = some (.int .i64 m.sq) ∧ w'.cell? ⟨bL, oL + i * 7 + 3, none⟩ = some (.int .i64 m.ti) ∧ w'.cell? ⟨bL, oL + i * 7 + 4, none⟩ = some (.bool m.mrk) ∧ w'.cell? ⟨bL, oL + i * 7 + 5, none⟩ = some (.int .u8 m.ty) ∧ w'.cell? ⟨bL, oL + i * 7 + 6, none⟩ = some (.slice M m.pl.length mc)) (by kernel_rfl) ?_ (fun hHeld => ?_)
  · (first | assumption | ((try go_split_ands); refine and_dep ?_ (fun hbX => ⟨cell_old hbX b0, cell_old hbX b1, cell_old hbX b2, cell_old hbX b3, cell_old hbX b4, cell_old hbX b5, cell_old hbX b6, cell_old hbX b7, cell_old hbX b8, cell_old hbX b9, cell_old hbX b10, cell_old hbX b11, cell_old hbX b12, cell_old hbX b13, cell_old hbX hm0, cell_old hbX hm1, cell_old hbX hm2, cell_old hbX hm3, cell_old hbX hm4⟩); (with_reducible repeat first | assumption | exact below_old' (by assumption) (by assumption) | refine Below.drew ?_ | refine below_new_old ?_ _)))
  first
    | (refine tk1 (i := 0) (v := ?_) rfl (Or.inl ⟨by rfl, ?_⟩) (by assumption) ?_
       rotate_left
       · (intro w hSw; (try dsimp only at hSw); go_simp; try with_reducible rfl))
    | refine tk1 (i := 0) (v := undef) rfl (Or.inr ⟨by rfl, rfl⟩) (by assumption) ?_
  try simp only [List.getElem_toArray, List.getElem_cons_zero, List.getElem_cons_succ, Act.put, List.setIfInBounds_toArray, List.set_cons_zero, List.set_cons_succ]
  first
    | (refine tk1 (i := 1) (v := ?_) rfl (Or.inl ⟨by rfl, ?_⟩) (by assumption) ?_
       rotate_left
       · (intro w hSw; (try dsimp only at hSw); go_simp; try with_reducible rfl))
    | refine tk1 (i := 1) (v := undef) rfl (Or.inr ⟨by rfl, rfl⟩) (by assumption) ?_
  try simp only [List.getElem_toArray, List.getElem_cons_zero, List.getElem_cons_succ, Act.put, List.setIfInBounds_toArray, List.set_cons_zero, List.set_cons_succ]
  first
    | (refine tk1 (i := 2) (v := ?_) rfl (Or.inl ⟨by rfl, ?_⟩) (by assumption) ?_
       rotate_left
       · (intro w hSw; (try dsimp only at hSw); go_simp; try with_reducible rfl))
    | refine tk1 (i := 2) (v := undef) rfl (Or.inr ⟨by rfl, rfl⟩) (by assumption) ?_
  try simp only [List.getElem_toArray, List.getElem_cons_zero, List.getElem_cons_succ, Act.put, List.setIfInBounds_toArray, List.set_cons_zero, List.set_cons_succ]
  first
    | (refine tk1 (i := 3) (v := ?_) rfl (Or.inl ⟨by rfl, ?_⟩) (by assumption) ?_
       rotate_left
       · (intro w hSw; (try dsimp only at hSw); go_simp; try with_reducible rfl))
    | refine tk1 (i := 3) (v := undef) rfl (Or.inr ⟨by rfl, rfl⟩) (by assumption) ?_
  try simp only [List.getElem_toArray, List.getElem_cons_zero, List.getElem_cons_succ, Act.put, List.setIfInBounds_toArray, List.set_cons_zero, List.set_cons_succ]
  first
    | (refine tk1 (i := 4) (v := ?_) rfl (Or.inl ⟨by rfl, ?_⟩) (by assumption) ?_
       rotate_left
       · (intro w hSw; (try dsimp only at hSw); go_simp; try with_reducible rfl))
    | refine tk1 (i := 4) (v := undef) rfl (Or.inr ⟨by rfl, rfl⟩) (by assumption) ?_
  try simp only [List.getElem_toArray, List.getElem_cons_zero, List.getElem_cons_succ, Act.put, List.setIfInBounds_toArray, List.set_cons_zero, List.set_cons_succ]
  first
    | (refine tk1 (i := 5) (v := ?_) rfl (Or.inl ⟨by rfl, ?_⟩) (by assumption) ?_
       rotate_left
       · (intro w hSw; (try dsimp only at hSw); go_simp; try with_reducible rfl))
    | refine tk1 (i := 5) (v := undef) rfl (Or.inr ⟨by rfl, rfl⟩) (by assumption) ?_
  try simp only [List.getElem_toArray, List.getElem_cons_zero, List.getElem_cons_succ, Act.put, List.setIfInBounds_toArray, List.set_cons_zero, List.set_cons_succ]
  first
    | (refine tk1 (i := 6) (v := ?_) rfl (Or.inl ⟨by rfl, ?_⟩) (by assumption) ?_
       rotate_left
       · (intro w hSw; (try dsimp only at hSw); go_simp; try with_reducible rfl))
    | refine tk1 (i := 6) (v := undef) rfl (Or.inr ⟨by rfl, rfl⟩) (by assumption) ?_
  try simp only [List.getElem_toArray, List.getElem_cons_zero, List.getElem_cons_succ, Act.put, List.setIfInBounds_toArray, List.set_cons_zero, List.set_cons_succ]
  refine wpAnyH_ready (rs := [7, 13]) (by kernel_rfl) (by simp) ?_
  refine AllReadyH.cons (o := _) rfl (fun K hK => ?_) (AllReadyH.cons (o := _) rfl (fun K hK => ?_) AllReadyH.nil)
  · go_simp
    (go_at_call 11; refine (jput_st s A l l.length c now m M m.pl.length mc _ HS.out.q rfl (by omega) HS.out.cap HS.out.cm HS.out.drew.wts (keys_small HS.out.q HKS.out) rfl (by omega) HMI.out.drew).mono ?_; rintro e wp hjp; obtain ⟨A3, c3, l3, A4, c4, l4, rfl, h1, h2, h3, h4, h5, h6, hbp⟩ := put_e HPUT.out hjp)
    have hbw : Below W.heap.size W wp := by first | exact below_old' hbp (Below.refl _ _).drew | exact below_old' hbp (by (try go_split_ands); assumption)
    obtain ⟨hcc, hff⟩ := bcell hbp
    simp only [JL]
    refine hK.out _ _ ?_ (fun hHeld => ?_)
    · (try dsimp only)
      (first | assumption | ((try go_split_ands); refine and_dep ?_ (fun hbX => ⟨cell_old hbX b0, cell_old hbX b1, cell_old hbX b2, cell_old hbX b3, cell_old hbX b4, cell_old hbX b5, cell_old hbX b6, cell_old hbX b7, cell_old hbX b8, cell_old hbX b9, cell_old hbX b10, cell_old hbX b11, cell_old hbX b12, cell_old hbX b13, cell_old hbX hm0, cell_old hbX hm1, cell_old hbX hm2, cell_old hbX hm3, cell_old hbX hm4⟩); (with_reducible repeat first | assumption | exact below_old' (by assumption) (by assumption) | refine Below.drew ?_ | refine below_new_old ?_ _)))
    clear hK K
    try simp only [List.getElem_toArray, List.getElem_cons_zero, List.getElem_cons_succ, Act.put, List.setIfInBounds_toArray, List.set_cons_zero, List.set_cons_succ]
    first
      | (refine tk1 (i := 8) (v := ?_) rfl (Or.inl ⟨by rfl, ?_⟩) (by assumption) ?_
         rotate_left
         · (intro w hSw; (try dsimp only at hSw); go_simp; try with_reducible rfl))
      | refine tk1 (i := 8) (v := undef) rfl (Or.inr ⟨by rfl, rfl⟩) (by assumption) ?_
    try simp only [List.getElem_toArray, List.getElem_cons_zero, List.getElem_cons_succ, Act.put, List.setIfInBounds_toArray, List.set_cons_zero, List.set_cons_succ]
    first
      | (refine tk1 (i := 9) (v := ?_) rfl (Or.inl ⟨by rfl, ?_⟩) (by assumption) ?_
         rotate_left
         · (intro w hSw; (try dsimp only at hSw); go_simp; try with_reducible rfl))
      | refine tk1 (i := 9) (v := undef) rfl (Or.inr ⟨by rfl, rfl⟩) (by assumption) ?_
    try simp only [List.getElem_toArray, List.getElem_cons_zero, List.getElem_cons_succ, Act.put, List.setIfInBounds_toArray, List.set_cons_zero, List.set_cons_succ]
    first
      | (refine tk1 (i := 10) (v := ?_) rfl (Or.inl ⟨by rfl, ?_⟩) (by assumption) ?_
         rotate_left
         · (intro w hSw; (try dsimp only at hSw); go_simp; try with_reducible rfl))
      | refine tk1 (i := 10) (v := undef) rfl (Or.inr ⟨by rfl, rfl⟩) (by assumption) ?_
    try simp only [List.getElem_toArray, List.getElem_cons_zero, List.getElem_cons_succ, Act.put, List.setIfInBounds_toArray, List.set_cons_zero, List.set_cons_succ]
    first
      | (refine tk1 (i := 11) (v := ?_) rfl (Or.inl ⟨by rfl, ?_⟩) (by assumption) ?_
         rotate_left
         · (intro w hSw; (try dsimp only at hSw); go_simp; try with_reducible rfl))
      | refine tk1 (i := 11) (v := undef) rfl (Or.inr ⟨by rfl, rfl⟩) (by assumption) ?_
    try simp only [List.getElem_toArray, List.getElem_cons_zero, List.getElem_cons_succ, Act.put, List.setIfInBounds_toArray, List.set_cons_zero, List.set_cons_succ]
    first
      | (refine tk1 (i := 12) (v := ?_) rfl (Or.inl ⟨by rfl, ?_⟩) (by assumption) ?_
         rotate_left
         · (intro w hSw; (try dsimp only at hSw); go_simp; try with_reducible rfl))
      | refine tk1 (i := 12) (v := undef) rfl (Or.inr ⟨by rfl, rfl⟩) (by assumption) ?_
    try simp only [List.getElem_toArray, List.getElem_cons_zero, List.getElem_cons_succ, Act.put, List.setIfInBounds_toArray, List.set_cons_zero, List.set_cons_succ]
    have hz1 : W.heap.size ≤ wp.heap.size := hbw.size
    refine wpAnyH_ready (rs := [13]) (by kernel_rfl) (by simp) ?_
    refine AllReadyH.cons (o := _) rfl (fun K hK => ?_) ?_
    rotate_left
    · exact AllReadyH.nil
    go_simp
    refine hK.out _ _ ?_ (fun hHeld => ?_)
    · (try dsimp only)
      (first | assumption | ((try go_split_ands); refine and_dep ?_ (fun hbX => ⟨cell_old hbX b0, cell_old hbX b1, cell_old hbX b2, cell_old hbX b3, cell_old hbX b4, cell_old hbX b5, cell_old hbX b6, cell_old hbX b7, cell_old hbX b8, cell_old hbX b9, cell_old hbX b10, cell_old hbX b11, cell_old hbX b12, cell_old hbX b13, cell_old hbX hm0, cell_old hbX hm1, cell_old hbX hm2, cell_old hbX hm3, cell_old hbX hm4⟩); (with_reducible repeat first | assumption | exact below_old' (by assumption) (by assumption) | refine Below.drew ?_ | refine below_new_old ?_ _)))
    clear hK K
    try simp only [List.getElem_toArray, List.getElem_cons_zero, List.getElem_cons_succ, Act.put, List.setIfInBounds_toArray, List.set_cons_zero, List.set_cons_succ]
    have hsx : SBox (wp.alloc (.cells (JL s' A4 l4.length c4).toArray 26)) wp.heap.size s' A4 c4 l4 := SBox.new h2 h5 h6 h4
    have hux : Bel w (wp.alloc (.cells (JL s' A4 l4.length c4).toArray 26)) := Bel.push (HU.out.drew.later hbp) _
    have hbx : Below W.heap.size W (wp.alloc (.cells (JL s' A4 l4.length c4).toArray 26)) := Bel.push hbw _
    have hwx : Wts (wp.alloc (.cells (JL s' A4 l4.length c4).toArray 26)) (wp.alloc (.cells (JL s' A4 l4.length c4).toArray 26)).heap.size A3 l3 := h3.push _
    simp only [JL] at hsx hux hbx hwx
    have HSX := Lib.hid hsx
    have HUX := Lib.hid hux
    have HBX := Lib.hid hbx
    have HWX := Lib.hid hwx
    clear hsx hux hbx hwx
    refine wpAnyH_ready (rs := [14]) (by kernel_rfl) (by simp) ?_
    refine AllReadyH.cons (o := _) rfl (fun K hK => ?_) ?_
    rotate_left
    · exact AllReadyH.nil
    go_simp
    refine hK.out _ _ ?_ (fun hHeld => ?_)
    · (try dsimp only)
      exact and_dep HBX.out (fun hbX => ⟨cell_old hbX b0, cell_old hbX b1, cell_old hbX b2, cell_old hbX b3, cell_old hbX b4, cell_old hbX b5, cell_old hbX b6, cell_old hbX b7, cell_old hbX b8, cell_old hbX b9, cell_old hbX b10, cell_old hbX b11, cell_old hbX b12, cell_old hbX b13, cell_old hbX hm0, cell_old hbX hm1, cell_old hbX hm2, cell_old hbX hm3, cell_old hbX hm4⟩)
    clear hK K
    try simp only [List.getElem_toArray, List.getElem_cons_zero, List.getElem_cons_succ, Act.put, List.setIfInBounds_toArray, List.set_cons_zero, List.set_cons_succ]
    first
      | (refine tk1 (i := 15) (v := ?_) rfl (Or.inl ⟨by rfl, ?_⟩) (by assumption) ?_
         rotate_left
         · (intro w hSw; (try dsimp only at hSw); go_simp; try with_reducible rfl))
      | refine tk1 (i := 15) (v := undef) rfl (Or.inr ⟨by rfl, rfl⟩) (by assumption) ?_
    try simp only [List.getElem_toArray, List.getElem_cons_zero, List.getElem_cons_succ, Act.put, List.setIfInBounds_toArray, List.set_cons_zero, List.set_cons_succ]
    first
      | (refine tk1 (i := 16) (v := ?_) rfl (Or.inl ⟨by rfl, ?_⟩) (by assumption) ?_
         rotate_left
         · (intro w hSw; (try dsimp only at hSw); go_simp; try with_reducible rfl))
      | refine tk1 (i := 16) (v := undef) rfl (Or.inr ⟨by rfl, rfl⟩) (by assumption) ?_
    try simp only [List.getElem_toArray, List.getElem_cons_zero, List.getElem_cons_succ, Act.put, List.setIfInBounds_toArray, List.set_cons_zero, List.set_cons_succ]
    first
      | (refine tk1 (i := 17) (v := ?_) rfl (Or.inl ⟨by rfl, ?_⟩) (by assumption) ?_
         rotate_left
         · (intro w hSw; (try dsimp only at hSw); go_simp; try with_reducible rfl))
      | refine tk1 (i := 17) (v := undef) rfl (Or.inr ⟨by rfl, rfl⟩) (by assumption) ?_
    try simp only [List.getElem_toArray, List.getElem_cons_zero, List.getElem_cons_succ, Act.put, List.setIfInBounds_toArray, List.set_cons_zero, List.set_cons_succ]
    refine wpAnyH_done (by kernel_rfl) ?_ _
    refine NoPanic.normal ?_
    try simp only [List.getElem_toArray, List.getElem_cons_zero, List.getElem_cons_succ, Act.put, List.setIfInBounds_toArray, List.set_cons_zero, List.set_cons_succ]
    have hl3 : l3.length = lp.length := by rw [← h1, List.length_map]
    rw [← hl3] at h
    exact h _ (wp.heap.size) A3 c3 l3 A4 c4 l4 _ _ _ _ _ _ _ _ _ _ _ _ _ h1 HWX (by omega) HBX HSX HUX
  · have HZ0 : Hid (SBox (World.alloc W.drew (.cells #[.int .i64 0, .int .i64 0, .int .i64 0, .bool false, .int .i64 0, .int .i64 0, .int .i64 0, .int .i64 0, .int .i64 0, .int .i64 0, .slice none 0 0, .int .i64 0, .int .i64 0, .int .i64 0] 26)) W.drew.heap.size Jb.Jt.none none 0 []) := Lib.hid (SBox.new (s := Jb.Jt.none) (c := 0) (l := []) rfl (Nat.le_refl _) (Nat.zero_le _) Wts.empty)
    have HU0 : Hid (Bel w (World.alloc W.drew (.cells #[.int .i64 0, .int .i64 0, .int .i64 0, .bool false, .int .i64 0, .int .i64 0, .int .i64 0, .int .i64 0, .int .i64 0, .int .i64 0, .slice none 0 0, .int .i64 0, .int .i64 0, .int .i64 0] 26))) := Lib.hid (Bel.push HU.out.drew _)
    have HB0 : Hid (Below W.heap.size W (World.alloc W.drew (.cells #[.int .i64 0, .int .i64 0, .int .i64 0, .bool false, .int .i64 0, .int .i64 0, .int .i64 0, .int .i64 0, .int .i64 0, .int .i64 0, .slice none 0 0, .int .i64 0, .int .i64 0, .int .i64 0] 26))) := Lib.hid (Bel.push (Bel.refl W).drew _)
    go_simp
    refine hK.out _ _ ?_ (fun hHeld => ?_)
    · (try dsimp only)
      exact and_dep HB0.out (fun hbX => ⟨cell_old hbX b0, cell_old hbX b1, cell_old hbX b2, cell_old hbX b3, cell_old hbX b4, cell_old hbX b5, cell_old hbX b6, cell_old hbX b7, cell_old hbX b8, cell_old hbX b9, cell_old hbX b10, cell_old hbX b11, cell_old hbX b12, cell_old hbX b13, cell_old hbX hm0, cell_old hbX hm1, cell_old hbX hm2, cell_old hbX hm3, cell_old hbX hm4⟩)
    clear hK K
    try simp only [List.getElem_toArray, List.getElem_cons_zero, List.getElem_cons_succ, Act.put, List.setIfInBounds_toArray, List.set_cons_zero, List.set_cons_succ]
    refine wpAnyH_ready (rs := [7]) (by kernel_rfl) (by simp) ?_
    refine AllReadyH.cons (o := _) rfl (fun K hK => ?_) ?_
    rotate_left
    · exact AllReadyH.nil
    go_simp
    (go_at_call 11; refine (jput_st s A l l.length c now m M m.pl.length mc _ HS.out.q rfl (by omega) HS.out.cap HS.out.cm (HS.out.drew.push _).wts (keys_small HS.out.q HKS.out) rfl (by omega) (HMI.out.drew.push _)).mono ?_; rintro e wp hjp; obtain ⟨A3, c3, l3, A4, c4, l4, rfl, h1, h2, h3, h4, h5, h6, hbp⟩ := put_e HPUT.out hjp)
    have hbw : Below W.heap.size W wp := by first | exact HB0.out.trans (hbp.mono HB0.out.size) | exact below_old' hbp (by (try go_split_ands); assumption)
    obtain ⟨hcc, hff⟩ := bcell hbp
    simp only [JL]
    refine hK.out _ _ ?_ (fun hHeld => ?_)
    · (try dsimp only)
      exact and_dep hbw (fun hbX => ⟨cell_old hbX b0, cell_old hbX b1, cell_old hbX b2, cell_old hbX b3, cell_old hbX b4, cell_old hbX b5, cell_old hbX b6, cell_old hbX b7, cell_old hbX b8, cell_old hbX b9, cell_old hbX b10, cell_old hbX b11, cell_old hbX b12, cell_old hbX b13, cell_old hbX hm0, cell_old hbX hm1, cell_old hbX hm2, cell_old hbX hm3, cell_old hbX hm4⟩)
    clear hK K
    try simp only [List.getElem_toArray, List.getElem_cons_zero, List.getElem_cons_succ, Act.put, List.setIfInBounds_toArray, List.set_cons_zero, List.set_cons_succ]
    first
      | (refine tk1 (i := 8) (v := ?_) rfl (Or.inl ⟨by rfl, ?_⟩) (by assumption) ?_
         rotate_left
         · (intro w hSw; (try dsimp only at hSw); go_simp; try with_reducible rfl))
      | refine tk1 (i := 8) (v := undef) rfl (Or.inr ⟨by rfl, rfl⟩) (by assumption) ?_
    try simp only [List.getElem_toArray, List.getElem_cons_zero, List.getElem_cons_succ, Act.put, List.setIfInBounds_toArray, List.set_cons_zero, List.set_cons_succ]
    first
      | (refine tk1 (i := 9) (v := ?_) rfl (Or.inl ⟨by rfl, ?_⟩) (by assumption) ?_
         rotate_left
         · (intro w hSw; (try dsimp only at hSw); go_simp; try with_reducible rfl))
      | refine tk1 (i := 9) (v := undef) rfl (Or.inr ⟨by rfl, rfl⟩) (by assumption) ?_
    try simp only [List.getElem_toArray, List.getElem_cons_zero, List.getElem_cons_succ, Act.put, List.setIfInBounds_toArray, List.set_cons_zero, List.set_cons_succ]
    first
      | (refine tk1 (i := 10) (v := ?_) rfl (Or.inl ⟨by rfl, ?_⟩) (by assumption) ?_
         rotate_left
         · (intro w hSw; (try dsimp only at hSw); go_simp; try with_reducible rfl))
      | refine tk1 (i := 10) (v := undef) rfl (Or.inr ⟨by rfl, rfl⟩) (by assumption) ?_
    try simp only [List.getElem_toArray, List.getElem_cons_zero, List.getElem_cons_succ, Act.put, List.setIfInBounds_toArray, List.set_cons_zero, List.set_cons_succ]
    first
      | (refine tk1 (i := 11) (v := ?_) rfl (Or.inl ⟨by rfl, ?_⟩) (by assumption) ?_
         rotate_left
         · (intro w hSw; (try dsimp only at hSw); go_simp; try with_reducible rfl))
      | refine tk1 (i := 11) (v := undef) rfl (Or.inr ⟨by rfl, rfl⟩) (by assumption) ?_
    try simp only [List.getElem_toArray, List.getElem_cons_zero, List.getElem_cons_succ, Act.put, List.setIfInBounds_toArray, List.set_cons_zero, List.set_cons_succ]
    first
      | (refine tk1 (i := 12) (v := ?_) rfl (Or.inl ⟨by rfl, ?_⟩) (by assumption) ?_
         rotate_left
         · (intro w hSw; (try dsimp only at hSw); go_simp; try with_reducible rfl))
      | refine tk1 (i := 12) (v := undef) rfl (Or.inr ⟨by rfl, rfl⟩) (by assumption) ?_
    try simp only [List.getElem_toArray, List.getElem_cons_zero, List.getElem_cons_succ, Act.put, List.setIfInBounds_toArray, List.set_cons_zero, List.set_cons_succ]
    have hzb : SBox wp W.heap.size Jb.Jt.none none 0 [] := HZ0.out.later hbp
    have HZB := Lib.hid hzb
    have HUP := Lib.hid (HU0.out.later hbp)
    have HBP := Lib.hid hbw
    have HWP := Lib.hid h3
    have hz2 : w.heap.size ≤ W.heap.size := HU.out.size
    obtain ⟨z0, z1, z2, z3, z4, z5, z6, z7, z8, z9, z10, z11, z12, z13⟩ := Blk.c14 hzb.blk
    have zfz := hzb.blk.frozen
    have hzl := hzb.blk.lt
    clear hzb
    have hsx : SBox (setRow (W.heap.size) wp 0 (JL s' A4 l4.length c4)) (W.heap.size) s' A4 c4 l4 := HZB.out.store (s' := s') h2 h5 h6 h4
    have hux : Bel w (setRow (W.heap.size) wp 0 (JL s' A4 l4.length c4)) := below_setRow (by omega) (JL s' A4 l4.length c4) wp 0 HUP.out
    have hbx : Below W.heap.size W (setRow (W.heap.size) wp 0 (JL s' A4 l4.length c4)) := below_setRow (by omega) (JL s' A4 l4.length c4) wp 0 HBP.out
    have hwx : Wts (setRow (W.heap.size) wp 0 (JL s' A4 l4.length c4)) (setRow (W.heap.size) wp 0 (JL s' A4 l4.length c4)).heap.size A3 l3 := wts_size (JL s' A4 l4.length c4) (HWP.out.setRowNe HZB.out.blk (JL_no _ _ _ _) (JL s' A4 l4.length c4))
    simp only [JL, setRow, Nat.zero_add, Nat.reduceAdd] at hsx hux hbx hwx
    have HSX := Lib.hid hsx
    have HUX := Lib.hid hux
    have HBX := Lib.hid hbx
    have HWX := Lib.hid hwx
    clear hsx hux hbx hwx
    refine wpAnyH_ready (rs := [14]) (by kernel_rfl) (by simp) ?_
    refine AllReadyH.cons (o := _) rfl (fun K hK => ?_) ?_
    rotate_left
    · exact AllReadyH.nil
    go_simp
    refine hK.out _ _ ?_ (fun hHeld => ?_)
    · (try dsimp only)
      exact and_dep HBX.out (fun hbX => ⟨cell_old hbX b0, cell_old hbX b1, cell_old hbX b2, cell_old hbX b3, cell_old hbX b4, cell_old hbX b5, cell_old hbX b6, cell_old hbX b7, cell_old hbX b8, cell_old hbX b9, cell_old hbX b10, cell_old hbX b11, cell_old hbX b12, cell_old hbX b13, cell_old hbX hm0, cell_old hbX hm1, cell_old hbX hm2, cell_old hbX hm3, cell_old hbX hm4⟩)
    clear hK K
    try simp only [List.getElem_toArray, List.getElem_cons_zero, List.getElem_cons_succ, Act.put, List.setIfInBounds_toArray, List.set_cons_zero, List.set_cons_succ]
    first
      | (refine tk1 (i := 15) (v := ?_) rfl (Or.inl ⟨by rfl, ?_⟩) (by assumption) ?_
         rotate_left
         · (intro w hSw; (try dsimp only at hSw); go_simp; try with_reducible rfl))
      | refine tk1 (i := 15) (v := undef) rfl (Or.inr ⟨by rfl, rfl⟩) (by assumption) ?_
    try simp only [List.getElem_toArray, List.getElem_cons_zero, List.getElem_cons_succ, Act.put, List.setIfInBounds_toArray, List.set_cons_zero, List.set_cons_succ]
    first
      | (refine tk1 (i := 16) (v := ?_) rfl (Or.inl ⟨by rfl, ?_⟩) (by assumption) ?_
         rotate_left
         · (intro w hSw; (try dsimp only at hSw); go_simp; try with_reducible rfl))
      | refine tk1 (i := 16) (v := undef) rfl (Or.inr ⟨by rfl, rfl⟩) (by assumption) ?_
    try simp only [List.getElem_toArray, List.getElem_cons_zero, List.getElem_cons_succ, Act.put, List.setIfInBounds_toArray, List.set_cons_zero, List.set_cons_succ]
    first
      | (refine tk1 (i := 17) (v := ?_) rfl (Or.inl ⟨by rfl, ?_⟩) (by assumption) ?_
         rotate_left
         · (intro w hSw; (try dsimp only at hSw); go_simp; try with_reducible rfl))
      | refine tk1 (i := 17) (v := undef) rfl (Or.inr ⟨by rfl, rfl⟩) (by assumption) ?_
    try simp only [List.getElem_toArray, List.getElem_cons_zero, List.getElem_cons_succ, Act.put, List.setIfInBounds_toArray, List.set_cons_zero, List.set_cons_succ]
    refine wpAnyH_done (by kernel_rfl) ?_ _
    refine NoPanic.normal ?_
    try simp only [List.getElem_toArray, List.getElem_cons_zero, List.getElem_cons_succ, Act.put, List.setIfInBounds_toArray, List.set_cons_zero, List.set_cons_succ]
    have hl3 : l3.length = lp.length := by rw [← h1, List.length_map]
    rw [← hl3] at h
    exact h _ (W.heap.size) A3 c3 l3 A4 c4 l4 _ _ _ _ _ _ _ _ _ _ _ _ _ h1 HWX (by omega) HBX HSX HUX
end Go.Proofs.Ytnaafjdnmbajjaa
/- Layer 30: what Run of the reference holds in memory while it works. -/
namespace Go.Proofs.Ytnaafjdnmbajjaa
open Go.RowKit
set_option linter.unusedVariables false
set_option linter.unusedSimpArgs false
attribute [local go_sem ↓] run_min_plain run_max_plain
attribute [local go_sem] setCell_drewN alloc_drewN
/-- the state's box, the result's box; two lists that the call has made -/
structure RSt (w W : World) (cs : List Value) (A1 : Option Addr) (n1 c1 : Nat) (l1 : List TW) (A2 : Option Addr) (n2 c2 : Nat) (l2 : List TW) : Prop where
  bs : Blk W w.heap.size 26 cs.toArray
  br : Blk W (w.heap.size + 1) 26 Z14.toArray
  u : Bel w W
  o1 : Owns W (w.heap.size + 1 + 1) 50 6 A1 n1 c1 (l1.flatMap TW.row)
  o2 : Owns W (w.heap.size + 1 + 1) 50 6 A2 n2 c2 (l2.flatMap TW.row)
  len1 : l1.length = n1
  len2 : l2.length = n2
  apart : ∀ g, ownB A1 = some g → ownB A2 ≠ some g
  hB : w.heap.size + 1 + 1 ≤ W.heap.size
section
variable {w W W' : World} {n1 c1 n2 c2 : Nat} {cs : List Value} {A1 A2 : Option Addr} {l1 l2 : List TW}
theorem RSt.later (h : RSt w W cs A1 n1 c1 l1 A2 n2 c2 l2) (hb : Below W.heap.size W W') : RSt w W' cs A1 n1 c1 l1 A2 n2 c2 l2 :=
  ⟨h.bs.later hb, h.br.later hb, h.u.later hb, h.o1.below hb, h.o2.below hb, h.len1, h.len2, h.apart, Nat.le_trans h.hB hb.size⟩
theorem RSt.one (h : RSt w W cs A1 n1 c1 l1 A2 n2 c2 l2) {An : Option Addr} {cn : Nat} {a : TW} (ho : Owns W' (w.heap.size + 1 + 1) 50 6 An (n1 + 1) cn (l1.flatMap TW.row ++ a.row)) (hg : W.grownBy W' (ownB A1)) (hat : ownB An = ownB A1 ∨ ∀ g, ownB An = some g → W.heap.size ≤ g) : RSt w W' cs An (n1 + 1) cn (l1 ++ [a]) A2 n2 c2 l2 := by
  have hge : ∀ g, ownB A1 = some g → w.heap.size + 1 + 1 ≤ g := fun g e => (h.o1.block g e).1
  refine ⟨h.bs.grown hg (fun e => by have := hge _ e.symm; omega), h.br.grown hg (fun e => by have := hge _ e.symm; omega), h.u.grown hg (by have := h.hB; omega) (fun g e => by have := hge g e; omega), by rw [List.flatMap_append]; simpa using ho, h.o2.grown hg (fun g e e1 => h.apart g e1 e), by simp [h.len1], h.len2, fun g e e2 => ?_, Nat.le_trans h.hB hg.size⟩
  rcases hat with e1 | e1
  · exact h.apart g (e1 ▸ e) e2
  · have := e1 g e
    have := (h.o2.block g e2).2
    omega
theorem RSt.swap (h : RSt w W cs A1 n1 c1 l1 A2 n2 c2 l2) : RSt w W cs A2 n2 c2 l2 A1 n1 c1 l1 := ⟨h.bs, h.br, h.u, h.o2, h.o1, h.len2, h.len1, fun g e e2 => h.apart g e2 e, h.hB⟩
theorem RSt.set (h : RSt w W cs A1 n1 c1 l1 A2 n2 c2 l2) (i : Nat) (v : Value) : RSt w (W.setCell ⟨w.heap.size, i, none⟩ v) (cs.set i v) A1 n1 c1 l1 A2 n2 c2 l2 := by
  have hge1 : ∀ g, ownB A1 = some g → g ≠ w.heap.size := fun g e => by have := (h.o1.block g e).1; omega
  have hge2 : ∀ g, ownB A2 = some g → g ≠ w.heap.size := fun g e => by have := (h.o2.block g e).1; omega
  refine ⟨?_, h.br.far (by simp) _, below_set_old h.u (Nat.le_refl _) _, h.o1.setCell hge1 _, h.o2.setCell hge2 _, h.len1, h.len2, h.apart, by simpa [World.setCell] using h.hB⟩
  have := h.bs.set_ i v
  simpa using this
theorem RSt.drew (h : RSt w W cs A1 n1 c1 l1 A2 n2 c2 l2) : RSt w W.drew cs A1 n1 c1 l1 A2 n2 c2 l2 := h.later (Below.refl _ _).drew
theorem RSt.drewN (h : RSt w W cs A1 n1 c1 l1 A2 n2 c2 l2) : ∀ k, RSt w (W.drewN k) cs A1 n1 c1 l1 A2 n2 c2 l2
  | 0 => h
  | k + 1 => (h.drewN k).drew
/-- a list of these, whose payloads are the argument's -/
theorem own_wts {B : Nat} {A : Option Addr} {n c : Nat} {l : List TW} (ho : Owns W B 50 6 A n c (l.flatMap TW.row)) (hl : l.length = n) (hp : ∀ a ∈ l, IntsAt W W.heap.size .u8 a.B a.w.m.pl) : Wts W W.heap.size A l := ⟨Owns.rows ho hl (fun a => rfl), hp⟩
/-- the result is written -/
theorem RSt.fin (h : RSt w W cs A1 n1 c1 l1 A2 n2 c2 l2) (vs : List Value) (hl : vs.length = 14) (hp1 : ∀ a ∈ l1, IntsAt w w.heap.size .u8 a.B a.w.m.pl) (hp2 : ∀ a ∈ l2, IntsAt w w.heap.size .u8 a.B a.w.m.pl) : Blk (setRow (w.heap.size + 1) W 0 vs) (w.heap.size + 1) 26 vs.toArray ∧ Wts (setRow (w.heap.size + 1) W 0 vs) (setRow (w.heap.size + 1) W 0 vs).heap.size A1 l1 ∧ Wts (setRow (w.heap.size + 1) W 0 vs) (setRow (w.heap.size + 1) W 0 vs).heap.size A2 l2 ∧ n2 ≤ c2 ∧ c2 ≤ maxLen ∧ Below w.heap.size w (setRow (w.heap.size + 1) W 0 vs) := by
  have U := Go.Proofs.Ytnaafjdnmbajjaa.below_setRow (g := w.heap.size + 1) (by omega) vs W 0 h.u
  have hz := U.size
  have p : ∀ (l : List TW), (∀ a ∈ l, IntsAt w w.heap.size .u8 a.B a.w.m.pl) → ∀ a ∈ l, IntsAt (setRow (w.heap.size + 1) W 0 vs) (setRow (w.heap.size + 1) W 0 vs).heap.size .u8 a.B a.w.m.pl := fun l hl a ha => ((hl a ha).keep (fun p hp => U.cell hp)).more hz
  have q1 := Owns.setRow (w.heap.size + 1) vs W 0 (fun b e => by have := (h.o1.block b e).1; omega) h.o1
  have q2 := Owns.setRow (w.heap.size + 1) vs W 0 (fun b e => by have := (h.o2.block b e).1; omega) h.o2
  exact ⟨h.br.setRow vs (by simp [Z14, hl]), own_wts q1 h.len1 (p _ hp1), own_wts q2 h.len2 (p _ hp2), h.o2.cap, Owns.capm h.o2, U⟩
end
def dueT (now : Int) (a : TW) : Bool := decide (a.w.at_ ≤ now)
theorem dueT_due {now : Int} {l : List TW} (h : Jb.Asc (l.map TW.w)) : (l.filter (dueT now)).map TW.w = Jb.due now (l.map TW.w) ∧ (l.filter (fun a => !dueT now a)).map TW.w = Jb.left now (l.map TW.w) := by
  obtain ⟨h1, h2⟩ := Jb.filter_due now _ h
  rw [← h1, ← h2, List.filter_map, List.filter_map]
  exact ⟨rfl, rfl⟩
theorem take_one {l : List TW} {k : Nat} {a : TW} (h : l[k]? = some a) (p : TW → Bool) : (p a = true → (l.take (k + 1)).filter p = (l.take k).filter p ++ [a]) ∧ (p a = false → (l.take (k + 1)).filter p = (l.take k).filter p) := by
  rw [List.take_add_one, h, List.filter_append]
  refine ⟨fun e => ?_, fun e => ?_⟩ <;> simp [e]
theorem maxSq_snoc2 (d : Int) (l : List Jb.Wt) (a : Jb.Wt) : Jb.maxSq d (l ++ [a]) = max (Jb.maxSq d l) a.m.sq := by simp [Jb.maxSq]
end Go.Proofs.Ytnaafjdnmbajjaa
/- 'append(out, x...)' where out is the call's own and x is a slice of structs, nil, empty or not; slices 's[k:]' of structs. -/
namespace Go.Proofs.Ytnaafjdnmbajjaa
open Go.RowKit
set_option linter.unusedVariables false
section
variable {P : Program} {w : World} {α : Type}
theorem flat_get2 {row : α → List Value} {size : Nat} (hrow : ∀ a, (row a).length = size) : ∀ (l : List α) (j : Nat) (u : Value), (l.flatMap row)[j]? = some u → ∃ (i k : Nat) (a : α), l[i]? = some a ∧ (row a)[k]? = some u ∧ j = i * size + k
  | [], j, u, h => by simp at h
  | a :: l, j, u, h => by
    rw [List.flatMap_cons] at h
    by_cases hj : j < size
    · rw [List.getElem?_append_left (by rw [hrow]; exact hj)] at h
      exact ⟨0, j, a, rfl, h, by omega⟩
    · rw [List.getElem?_append_right (by rw [hrow]; omega), hrow] at h
      obtain ⟨i, k, b, hi, hk, e⟩ := flat_get2 hrow l _ u h
      exact ⟨i + 1, k, b, by simpa using hi, hk, by rw [Nat.add_mul]; omega⟩
theorem add_add2 (b off j : Nat) : (⟨b, off, none⟩ : Addr).add j = ⟨b, off + j, none⟩ := by
  unfold Addr.add
  split <;> simp_all
theorem rows_cells {row : α → List Value} {size B : Nat} (hrow : ∀ a, (row a).length = size) {ad : Addr} {l : List α} (hr : RowsAt w B size row (some ad) l) : ∀ (j : Nat) (u : Value), (l.flatMap row)[j]? = some u → w.cell? (ad.add j) = some u := by
  intro j u hu
  obtain ⟨i, k, a, hi, hk, rfl⟩ := flat_get2 hrow l j u hu
  obtain ⟨b, off, e, _, hc⟩ := hr (by have := (List.getElem?_eq_some_iff.1 hi).1; omega)
  injection e with e
  subst e
  rw [add_add2, ← Nat.add_assoc]
  exact hc i a hi k u hk
theorem flat_len2 {row : α → List Value} {size : Nat} (hrow : ∀ a, (row a).length = size) : ∀ l : List α, (l.flatMap row).length = l.length * size
  | [] => by simp
  | a :: l => by rw [List.flatMap_cons, List.length_append, hrow, flat_len2 hrow l, List.length_cons, Nat.add_mul]; omega
/-- the run's equation -/
theorem run_append_rows (base : Nat) (t ty e : TypeId) (z : Value) (size bytes : Nat) (ht : P.underlying t = some (.slice e)) (hinfo : (P.info? e).map (fun i => (i.zero, i.size, i.bytes)) = some (some z, size, bytes)) (hzs : z.cells.size = size) (hsz : 0 < size)
    (v : Value) (n : Nat) (xs : List Value) (hown : w.ownsRow base e size v n xs)
    (B : Nat) (row : α → List Value) (hrow : ∀ a, (row a).length = size) (hone : ∀ a, ∀ u ∈ row a, u.oneCell' = true) (A : Option Addr) (c : Nat) (l : List α) (hr : RowsAt w B size row A l) (h63 : n + l.length ≤ maxLen) (hbytes : (n + l.length) * bytes ≤ 140737488355328) (hbase : base ≤ w.heap.size) :
    ∃ A' c' w', (Builtin.append_ #[t, t] ty #[v, .slice A l.length c]).run P w = .ok (.slice A' (n + l.length) c') w' ∧ Owns w' base e size A' (n + l.length) c' (xs ++ l.flatMap row) ∧ w.grownBy w' v.ownBlock ∧
      (ownB A' = v.ownBlock ∨ ownB A' = some w.heap.size) := by
  obtain ⟨i, hi, hz0, hz1, hz2⟩ := info_parts hinfo
  have fin : ∀ v' w', (Builtin.append_ #[t, t] ty #[v, .slice A l.length c]).run P w = .ok v' w' → w'.ownsRow base e size v' (n + l.length) (xs ++ l.flatMap row) → w.grownBy w' v.ownBlock → (v'.ownBlock = v.ownBlock ∨ v'.ownBlock = some w.heap.size) →
      ∃ A' c' w', (Builtin.append_ #[t, t] ty #[v, .slice A l.length c]).run P w = .ok (.slice A' (n + l.length) c') w' ∧ Owns w' base e size A' (n + l.length) c' (xs ++ l.flatMap row) ∧ w.grownBy w' v.ownBlock ∧ (ownB A' = v.ownBlock ∨ ownB A' = some w.heap.size) := by
    intro v' w' h1 h2 h3 h4
    obtain ⟨A', c', rfl⟩ := own_form h2
    rw [ownB_eq] at h4
    exact ⟨A', c', w', h1, h2, h3, h4⟩
  rcases A with _ | ad
  · have hz : l = [] := by
      rcases Nat.eq_zero_or_pos l.length with h0 | h0
      · exact List.eq_nil_of_length_eq_zero h0
      · obtain ⟨b, off, h, _⟩ := hr h0
        cases h
    subst hz
    exact fin v w (append_nothing base t ty e i size ht hi v n xs hown none c rfl) (by simpa using hown) (World.grownBy.refl w _) (.inl rfl)
  · obtain ⟨v', w', hrun, h2, h3, _, h5⟩ := run_append_own_at (P := P) w base t ty e i z size bytes ht hi hz0 hz1 hz2 hzs hsz v n xs hown ad l.length c (l.flatMap row) (flat_len2 hrow l) (rows_cells hrow hr) (by
      intro u hu
      obtain ⟨x, _, hx⟩ := List.mem_flatMap.1 hu
      exact hone x u hx) h63 hbytes hbase
    exact fin v' w' hrun h2 h3 h5
/-- 'out = append(out, x...)' -/
theorem wpList_append_rows {ops : Array Oper} {rest : List Oper} {o : Oper} {a : Act} {Q : Exit → Act → World → Prop} (hgd : o.guard = none) (s x : Operand) (t : TypeId)
    (ho : o.op = .call { callee := .builtin .append, args := #[s, x], argTypes := #[t, t] })
    (base : Nat) (e : TypeId) (size bytes : Nat) (z : Value) (ht : P.underlying t = some (.slice e)) (hinfo : (P.info? e).map (fun i => (i.zero, i.size, i.bytes)) = some (some z, size, bytes)) (hzs : z.cells.size = size) (hsz : 0 < size)
    (A0 : Option Addr) (n c0 : Nat) (xs : List Value) (hs : a.eval s = .slice A0 n c0) (hown : Owns w base e size A0 n c0 xs)
    (B : Nat) (row : α → List Value) (hrow : ∀ a, (row a).length = size) (hone : ∀ a, ∀ u ∈ row a, u.oneCell' = true) (A : Option Addr) (k c : Nat) (l : List α) (hx : a.eval x = .slice A k c) (hr : RowsAt w B size row A l) (hk : l.length = k) (h63 : n + l.length ≤ maxLen) (hbytes : (n + l.length) * bytes ≤ 140737488355328) (hbase : base ≤ w.heap.size) (m : Nat) (hm : n + l.length = m)
    (h : ∀ (A' : Option Addr) (c' : Nat) (w' : World), Owns w' base e size A' m c' (xs ++ l.flatMap row) → w.grownBy w' (ownB A0) → (ownB A' = ownB A0 ∨ ownB A' = some w.heap.size) → wpList P ops Q rest (a.put o.dst (.slice A' m c')) w') :
    wpList P ops Q (o :: rest) a w := by
  subst hm hk
  obtain ⟨A', c', w', hrun, h2, h3, h4⟩ := run_append_rows (P := P) base t o.type e z size bytes ht hinfo hzs hsz (.slice A0 n c0) n xs hown B row hrow hone A c l hr h63 hbytes hbase
  rw [ownB_eq] at h3 h4
  refine wpList_plain hgd fun K hK => ?_
  unfold Oper.wp execOp
  simp only [ho, resolve, invoke, builtin, Sem.run_bind, Sem.run_pure, Result.andThen_ok, List.map_toArray, List.map_cons, List.map_nil, hs, hx, hrun]
  exact hK _ _ (h A' c' w' h2 h3 h4)
/-- 's[n:]' of a slice of structs -/
theorem RowsAt.drop {row : α → List Value} {size B : Nat} {b off : Nat} {l : List α} (h : RowsAt w B size row (some ⟨b, off, none⟩) l) (n : Nat) : RowsAt w B size row (some ⟨b, off + n * size, none⟩) (l.drop n) := fun h0 => by
  obtain ⟨b', off', e, hb, hc⟩ := h (by simp at h0; omega)
  injection e with e
  injection e with e1 e2
  subst e1 e2
  refine ⟨b, off + n * size, rfl, hb, fun i a hi j v hv => ?_⟩
  rw [List.getElem?_drop] at hi
  have := hc (n + i) a hi j v hv
  rwa [Nat.add_mul, ← Nat.add_assoc] at this
theorem RowsAt.nil' {row : α → List Value} {size B : Nat} {A : Option Addr} {l : List α} (h : l.length = 0) : RowsAt w B size row A l := fun h0 => by omega
end
end Go.Proofs.Ytnaafjdnmbajjaa
/- Layer 30: what inserted of the reference holds in memory while it works. -/
namespace Go.Proofs.Ytnaafjdnmbajjaa
open Go.RowKit
set_option linter.unusedVariables false
set_option linter.unusedSimpArgs false
attribute [local go_sem ↓] run_min_plain run_max_plain
attribute [local go_sem] setCell_drewN alloc_drewN
def befB (x a : TW) : Bool := decide (Jb.bef a.w x.w)
def insT (l : List TW) (x : TW) : List TW := l.takeWhile (befB x) ++ x :: l.dropWhile (befB x)
theorem insT_map (l : List TW) (x : TW) : (insT l x).map TW.w = Jb.ins (l.map TW.w) x.w := by
  unfold insT Jb.ins
  rw [List.takeWhile_map, List.dropWhile_map, List.map_append, List.map_cons]
  rfl
theorem while_len (p : TW → Bool) : ∀ l : List TW, l.takeWhile p = l.take (l.takeWhile p).length ∧ l.dropWhile p = l.drop (l.takeWhile p).length ∧ (l.takeWhile p).length ≤ l.length ∧ (∀ k a, k < (l.takeWhile p).length → l[k]? = some a → p a = true) ∧ (∀ a, l[(l.takeWhile p).length]? = some a → p a = false)
  | [] => by simp
  | b :: l => by
    obtain ⟨h1, h2, h3, h4, h5⟩ := while_len p l
    by_cases hb : p b = true
    · simp only [List.takeWhile_cons, List.dropWhile_cons, hb, if_true, List.length_cons, List.take_succ_cons, List.drop_succ_cons]
      refine ⟨by rw [← h1], h2, by omega, fun k a hk ha => ?_, fun a ha => h5 a (by simpa using ha)⟩
      rcases k with _ | k
      · simp at ha; rw [← ha]; exact hb
      · exact h4 k a (by omega) (by simpa using ha)
    · have hb' : p b = false := by simpa using hb
      simp only [List.takeWhile_cons, List.dropWhile_cons, hb', if_false, List.length_nil, List.take_zero, List.drop_zero]
      refine ⟨by simp, by simp, by simp, fun k a hk => by simp at hk, fun a ha => ?_⟩
      simp at ha
      rw [← ha]; exact hb'
theorem row_sixW (a : TW) : (TW.row a).length = 6 := rfl
theorem row_oneW (a : TW) : ∀ u ∈ TW.row a, u.oneCell' = true := by
  intro u hu
  simp [TW.row] at hu
  rcases hu with rfl | rfl | rfl | rfl | rfl | rfl <;> rfl
/-- the box of the new packet; the list that the call makes -/
structure ISt (w W : World) (xr : List Value) (A : Option Addr) (n c : Nat) (l : List TW) : Prop where
  bx : Blk W w.heap.size 50 xr.toArray
  u : Bel w W
  own : Owns W (w.heap.size + 1) 50 6 A n c (l.flatMap TW.row)
  hB : w.heap.size + 1 ≤ W.heap.size
theorem ISt.later {w W W' : World} {xr : List Value} {A : Option Addr} {n c : Nat} {l : List TW} (h : ISt w W xr A n c l) (hb : Below W.heap.size W W') : ISt w W' xr A n c l := ⟨h.bx.later hb, h.u.later hb, h.own.below hb, Nat.le_trans h.hB hb.size⟩
theorem ISt.one {w W W' : World} {xr : List Value} {A An : Option Addr} {n m c cn : Nat} {l l2 : List TW} (h : ISt w W xr A n c l) (ho : Owns W' (w.heap.size + 1) 50 6 An m cn (l.flatMap TW.row ++ l2.flatMap TW.row)) (hg : W.grownBy W' (ownB A)) : ISt w W' xr An m cn (l ++ l2) := by
  have hge : ∀ g, ownB A = some g → w.heap.size + 1 ≤ g := fun g e => (h.own.block g e).1
  exact ⟨h.bx.grown hg (fun e => by have := hge _ e.symm; omega), h.u.grown hg (by have := h.hB; omega) (fun g e => by have := hge g e; omega), by rw [List.flatMap_append]; exact ho, Nat.le_trans h.hB hg.size⟩
theorem ISt.drewN {w W : World} {xr : List Value} {A : Option Addr} {n c : Nat} {l : List TW} (h : ISt w W xr A n c l) : ∀ k, ISt w (W.drewN k) xr A n c l
  | 0 => h
  | k + 1 => (h.drewN k).later (Below.refl _ _).drew
theorem insT_len (l : List TW) (x : TW) : (insT l x).length = l.length + 1 := by
  have h := congrArg List.length (List.takeWhile_append_dropWhile (p := befB x) (l := l))
  unfold insT
  simp only [List.length_append, List.length_cons] at h ⊢
  omega
theorem insT_mem {l : List TW} {x a : TW} (h : a ∈ insT l x) : a = x ∨ a ∈ l := by
  unfold insT at h
  rcases List.mem_append.1 h with h | h
  · exact .inr ((List.takeWhile_sublist _).subset h)
  · rcases List.mem_cons.1 h with h | h
    · exact .inl h
    · exact .inr ((List.dropWhile_sublist _).subset h)
/-- what inserted leaves -/
def RInsR (l : List TW) (x : TW) (w : World) (e : Ending) (w' : World) : Prop :=
  ∃ (A' : Option Addr) (c' : Nat), e = .returned (.slice A' (l.length + 1) c') ∧ Owns w' (w.heap.size + 1) 50 6 A' (l.length + 1) c' ((insT l x).flatMap TW.row) ∧ Below w.heap.size w w'
end Go.Proofs.Ytnaafjdnmbajjaa
/- Layer 30: inserted of the reference. -/
namespace Go.Proofs.Ytnaafjdnmbajjaa
open Go.RowKit
set_option linter.unusedVariables false
set_option linter.unusedSimpArgs false
attribute [local go_sem ↓] run_min_plain run_max_plain
attribute [local go_sem] setCell_drewN alloc_drewN
set_option maxRecDepth 100000 in
set_option maxHeartbeats 12800000 in
theorem rins_some (bA oA : Nat) (l : List TW) (n c : Nat) (xa xs xt : Int) (xm : Bool) (xy : Int) (XB : Option Addr) (xp : List Int) (xc : Nat) (w : World) (hn : l.length = n) (hl : n ≤ 1000) (hcap : n ≤ c) (hcm : c ≤ maxLen) (hA : RowsAt w w.heap.size 6 TW.row (some ⟨bA, oA, none⟩) l) (hcp : ¬c = (l.takeWhile (befB ⟨⟨xa, ⟨xs, xt, xm, xy, xp⟩⟩, XB, xc⟩)).length) : Calls Try.prog 40 #[.slice (some ⟨bA, oA, none⟩) n c, .agg #[.int .i64 xa, .int .i64 xs, .int .i64 xt, .bool xm, .int .u8 xy, .slice XB xp.length xc]] w (RInsR l ⟨⟨xa, ⟨xs, xt, xm, xy, xp⟩⟩, XB, xc⟩ w) := by
  subst hn
  obtain ⟨w1, w2, w3, w4, w5⟩ := while_len (befB ⟨⟨xa, ⟨xs, xt, xm, xy, xp⟩⟩, XB, xc⟩) l
  generalize hp : (l.takeWhile (befB ⟨⟨xa, ⟨xs, xt, xm, xy, xp⟩⟩, XB, xc⟩)).length = p at w1 w2 w3 w4 w5 hcp
  have HA := Lib.hid hA
  have H4 := Lib.hid w4
  have H5 := Lib.hid w5
  have hins : insT l ⟨⟨xa, ⟨xs, xt, xm, xy, xp⟩⟩, XB, xc⟩ = l.take p ++ (⟨⟨xa, ⟨xs, xt, xm, xy, xp⟩⟩, XB, xc⟩ :: l.drop p) := by unfold insT; rw [← w1, ← w2]
  have HI := Lib.hid hins
  clear hA w1 w2 w4 w5 hp hins
  unfold maxLen at hcm
  have IS0 : Hid (ISt w (w.alloc (.cells #[.int .i64 xa, .int .i64 xs, .int .i64 xt, .bool xm, .int .u8 xy, .slice XB xp.length xc] 50)) [.int .i64 xa, .int .i64 xs, .int .i64 xt, .bool xm, .int .u8 xy, .slice XB xp.length xc] none 0 0 []) := Lib.hid ⟨Blk.new w _ _, (Bel.refl w).push _, Owns.nil, by simp⟩
  go_enter Try.func40, Try.ntmps40
  go_wp2_with fail
  go_loopg [5, 6] p (fun gk s5 i wr => ∃ (k : Nat) (A1 : Option Addr) (c1 : Nat), gk + k = p ∧ s5 = .slice A1 k c1 ∧ i = .int .i64 k ∧ Hid (ISt w wr [.int .i64 xa, .int .i64 xs, .int .i64 xt, .bool xm, .int .u8 xy, .slice XB xp.length xc] A1 k c1 (l.take k)))
  case atStart => exact ⟨0, none, 0, rfl, rfl, rfl, IS0⟩
  case round =>
    obtain ⟨k, A1, c1, hgk, rfl, rfl, IS⟩ := hrel
    have hi0 : (0 : Int) ≤ (k : Int) := by omega
    have hwl := IS.out.bx.lt
    have x0 := IS.out.bx.at 0 _ rfl
    have x1 := IS.out.bx.at 1 _ rfl
    have x2 := IS.out.bx.at 2 _ rfl
    have x3 := IS.out.bx.at 3 _ rfl
    have x4 := IS.out.bx.at 4 _ rfl
    have x5 := IS.out.bx.at 5 _ rfl
    by_cases hk : k < l.length
    · have hi1 : (k : Int) < (l.length : Int) := by omega
      have hd1 : decide ((k : Int) < (l.length : Int)) = true := by rw [decide_eq_true_iff]; exact hi1
      have hd2 : decide (k < l.length) = true := by rw [decide_eq_true_iff]; exact hk
      have HD1 := Lib.hid hd1
      have HD2 := Lib.hid hd2
      have hU : Below wr.heap.size wr wr := Below.refl _ _
      clear hd1 hd2
      obtain ⟨a, ha⟩ : ∃ a, l[k]? = some a := ⟨_, List.getElem?_eq_getElem hk⟩
      obtain ⟨b, off, hbo, hbB, e0, e1, e2, e3, e4, e5⟩ := rowsW (HA.out.keep (fun p hp => IS.out.u.cell hp)) ha
      injection hbo with hbo
      injection hbo with hbo1 hbo2
      subst hbo1 hbo2
      have HTK : Hid (l.take (k + 1) = l.take k ++ [a]) := Lib.hid (by rw [List.take_add_one, ha]; rfl)
      have HBF : Hid (k < p → befB ⟨⟨xa, ⟨xs, xt, xm, xy, xp⟩⟩, XB, xc⟩ a = true) := Lib.hid (fun h => H4.out k a h ha)
      have HBG : Hid (k = p → befB ⟨⟨xa, ⟨xs, xt, xm, xy, xp⟩⟩, XB, xc⟩ a = false) := Lib.hid (fun h => H5.out a (by rw [← h]; exact ha))
      obtain ⟨⟨at0, ⟨sq0, ti0, mk0, ty0, pl0⟩⟩, B0, c0⟩ := a
      simp only at e0 e1 e2 e3 e4 e5
      have hbwr : bA < wr.heap.size := by have := IS.out.u.size; omega
      clear ha
      by_cases hkp : k < p
      · have k2 := Lib.hid fun W => before_any at0 sq0 ti0 ty0 xa xs xt xy mk0 xm B0 XB pl0.length c0 xp.length xc W true (by have h9 := HBF.out hkp; unfold befB Jb.bef at h9; exact h9.symm)
        go_wp2_with fail
        refine wp_region_held_drew (S := fun w' => Below wr.heap.size wr w' ∧ w'.cell? ⟨w.heap.size, 0, none⟩ = some (.int .i64 xa) ∧ w'.cell? ⟨w.heap.size, 1, none⟩ = some (.int .i64 xs) ∧ w'.cell? ⟨w.heap.size, 2, none⟩ = some (.int .i64 xt) ∧ w'.cell? ⟨w.heap.size, 3, none⟩ = some (.bool xm) ∧ w'.cell? ⟨w.heap.size, 4, none⟩ = some (.int .u8 xy) ∧ w'.cell? ⟨w.heap.size, 5, none⟩ = some (.slice XB xp.length xc) ∧ w'.cell? ⟨bA, oA + k * 6, none⟩ = some (.int .i64 at0) ∧ w'.cell? ⟨bA, oA + k * 6 + 1, none⟩ = some (.int .i64 sq0) ∧ w'.cell? ⟨bA, oA + k * 6 + 2, none⟩ = some (.int .i64 ti0) ∧ w'.cell? ⟨bA, oA + k * 6 + 3, none⟩ = some (.bool mk0) ∧ w'.cell? ⟨bA, oA + k * 6 + 4, none⟩ = some (.int .u8 ty0) ∧ w'.cell? ⟨bA, oA + k * 6 + 5, none⟩ = some (.slice B0 pl0.length c0)) (by kernel_rfl) ?_ (fun hHeld => ?_)
        · (first | assumption | ((try go_split_ands); refine and_dep ?_ (fun hbX => ⟨cell_old hbX x0, cell_old hbX x1, cell_old hbX x2, cell_old hbX x3, cell_old hbX x4, cell_old hbX x5, cell_old hbX e0, cell_old hbX e1, cell_old hbX e2, cell_old hbX e3, cell_old hbX e4, cell_old hbX e5⟩); (with_reducible repeat first | assumption | exact below_old' (by assumption) (by assumption) | refine Below.drew ?_ | refine below_new_old ?_ _)))
        first
          | (refine tk1 (i := 0) (v := ?_) rfl (Or.inl ⟨by rfl, ?_⟩) (by assumption) ?_
             rotate_left
             · (intro w hSw; (try dsimp only at hSw); go_simp; try with_reducible rfl))
          | refine tk1 (i := 0) (v := undef) rfl (Or.inr ⟨by rfl, rfl⟩) (by assumption) ?_
        try simp only [List.getElem_toArray, List.getElem_cons_zero, List.getElem_cons_succ, Act.put, List.setIfInBounds_toArray, List.set_cons_zero, List.set_cons_succ, HD1.out, HD2.out]
        first
          | (refine tk1 (i := 1) (v := ?_) rfl (Or.inl ⟨by rfl, ?_⟩) (by assumption) ?_
             rotate_left
             · (intro w hSw; (try dsimp only at hSw); go_simp; try with_reducible rfl))
          | refine tk1 (i := 1) (v := undef) rfl (Or.inr ⟨by rfl, rfl⟩) (by assumption) ?_
        try simp only [List.getElem_toArray, List.getElem_cons_zero, List.getElem_cons_succ, Act.put, List.setIfInBounds_toArray, List.set_cons_zero, List.set_cons_succ, HD1.out, HD2.out]
        first
          | (refine tk1 (i := 2) (v := ?_) rfl (Or.inl ⟨by rfl, ?_⟩) (by assumption) ?_
             rotate_left
             · (intro w hSw; (try dsimp only at hSw); go_simp; try with_reducible rfl))
          | refine tk1 (i := 2) (v := undef) rfl (Or.inr ⟨by rfl, rfl⟩) (by assumption) ?_
        try simp only [List.getElem_toArray, List.getElem_cons_zero, List.getElem_cons_succ, Act.put, List.setIfInBounds_toArray, List.set_cons_zero, List.set_cons_succ, HD1.out, HD2.out]
        first
          | (refine tk1 (i := 3) (v := ?_) rfl (Or.inl ⟨by rfl, ?_⟩) (by assumption) ?_
             rotate_left
             · (intro w hSw; (try dsimp only at hSw); go_simp; try with_reducible rfl))
          | refine tk1 (i := 3) (v := undef) rfl (Or.inr ⟨by rfl, rfl⟩) (by assumption) ?_
        try simp only [List.getElem_toArray, List.getElem_cons_zero, List.getElem_cons_succ, Act.put, List.setIfInBounds_toArray, List.set_cons_zero, List.set_cons_succ, HD1.out, HD2.out]
        first
          | (refine tk1 (i := 4) (v := ?_) rfl (Or.inl ⟨by rfl, ?_⟩) (by assumption) ?_
             rotate_left
             · (intro w hSw; (try dsimp only at hSw); go_simp; try with_reducible rfl))
          | refine tk1 (i := 4) (v := undef) rfl (Or.inr ⟨by rfl, rfl⟩) (by assumption) ?_
        try simp only [List.getElem_toArray, List.getElem_cons_zero, List.getElem_cons_succ, Act.put, List.setIfInBounds_toArray, List.set_cons_zero, List.set_cons_succ, HD1.out, HD2.out]
        first
          | (refine tk1 (i := 5) (v := ?_) rfl (Or.inl ⟨by rfl, ?_⟩) (by assumption) ?_
             rotate_left
             · (intro w hSw; (try dsimp only at hSw); go_simp; try with_reducible rfl))
          | refine tk1 (i := 5) (v := undef) rfl (Or.inr ⟨by rfl, rfl⟩) (by assumption) ?_
        try simp only [List.getElem_toArray, List.getElem_cons_zero, List.getElem_cons_succ, Act.put, List.setIfInBounds_toArray, List.set_cons_zero, List.set_cons_succ, HD1.out, HD2.out]
        first
          | (refine tk1 (i := 6) (v := ?_) rfl (Or.inl ⟨by rfl, ?_⟩) (by assumption) ?_
             rotate_left
             · (intro w hSw; (try dsimp only at hSw); go_simp; try with_reducible rfl))
          | refine tk1 (i := 6) (v := undef) rfl (Or.inr ⟨by rfl, rfl⟩) (by assumption) ?_
        try simp only [List.getElem_toArray, List.getElem_cons_zero, List.getElem_cons_succ, Act.put, List.setIfInBounds_toArray, List.set_cons_zero, List.set_cons_succ, HD1.out, HD2.out]
        first
          | (refine tk1 (i := 7) (v := ?_) rfl (Or.inl ⟨by rfl, ?_⟩) (by assumption) ?_
             rotate_left
             · (intro w hSw; (try dsimp only at hSw); go_simp; try with_reducible rfl))
          | refine tk1 (i := 7) (v := undef) rfl (Or.inr ⟨by rfl, rfl⟩) (by assumption) ?_
        try simp only [List.getElem_toArray, List.getElem_cons_zero, List.getElem_cons_succ, Act.put, List.setIfInBounds_toArray, List.set_cons_zero, List.set_cons_succ, HD1.out, HD2.out]
        first
          | (refine tk1 (i := 8) (v := ?_) rfl (Or.inl ⟨by rfl, ?_⟩) (by assumption) ?_
             rotate_left
             · (intro w hSw; (try dsimp only at hSw); go_simp; try with_reducible rfl))
          | refine tk1 (i := 8) (v := undef) rfl (Or.inr ⟨by rfl, rfl⟩) (by assumption) ?_
        try simp only [List.getElem_toArray, List.getElem_cons_zero, List.getElem_cons_succ, Act.put, List.setIfInBounds_toArray, List.set_cons_zero, List.set_cons_succ, HD1.out, HD2.out]
        first
          | (refine tk1 (i := 9) (v := ?_) rfl (Or.inl ⟨by rfl, ?_⟩) (by assumption) ?_
             rotate_left
             · (intro w hSw; (try dsimp only at hSw); go_simp; try with_reducible rfl))
          | refine tk1 (i := 9) (v := undef) rfl (Or.inr ⟨by rfl, rfl⟩) (by assumption) ?_
        try simp only [List.getElem_toArray, List.getElem_cons_zero, List.getElem_cons_succ, Act.put, List.setIfInBounds_toArray, List.set_cons_zero, List.set_cons_succ, HD1.out, HD2.out]
        refine wpAnyH_ready (rs := [10]) (by kernel_rfl) (by simp) ?_
        refine AllReadyH.cons (o := _) rfl (fun K hK => ?_) ?_
        rotate_left
        · exact AllReadyH.nil
        go_simp
        (go_at_call 55; refine (k2.out _).mono ?_; rintro e w' ⟨rfl, hbel⟩; have hbw : Below wr.heap.size wr w' := below_old' hbel (by (try go_split_ands); assumption); obtain ⟨hcc, hff⟩ := bcell hbel)
        refine hK.out _ _ ?_ (fun hHeld => ?_)
        · (try dsimp only)
          (first | assumption | ((try go_split_ands); refine and_dep ?_ (fun hbX => ⟨cell_old hbX x0, cell_old hbX x1, cell_old hbX x2, cell_old hbX x3, cell_old hbX x4, cell_old hbX x5, cell_old hbX e0, cell_old hbX e1, cell_old hbX e2, cell_old hbX e3, cell_old hbX e4, cell_old hbX e5⟩); (with_reducible repeat first | assumption | exact below_old' (by assumption) (by assumption) | refine Below.drew ?_ | refine below_new_old ?_ _)))
        clear hK K
        try simp only [List.getElem_toArray, List.getElem_cons_zero, List.getElem_cons_succ, Act.put, List.setIfInBounds_toArray, List.set_cons_zero, List.set_cons_succ, HD1.out, HD2.out]
        first
          | (refine tk1 (i := 11) (v := ?_) rfl (Or.inl ⟨by rfl, ?_⟩) (by assumption) ?_
             rotate_left
             · (intro w hSw; (try dsimp only at hSw); go_simp; try with_reducible rfl))
          | refine tk1 (i := 11) (v := undef) rfl (Or.inr ⟨by rfl, rfl⟩) (by assumption) ?_
        try simp only [List.getElem_toArray, List.getElem_cons_zero, List.getElem_cons_succ, Act.put, List.setIfInBounds_toArray, List.set_cons_zero, List.set_cons_succ, HD1.out, HD2.out]
        refine wpAnyH_done (by kernel_rfl) ?_ _
        all_goals
          have IS2 := Lib.hid (IS.out.later hbw)
          have f0 := cell_old hbw e0
          have f1 := cell_old hbw e1
          have f2 := cell_old hbw e2
          have f3 := cell_old hbw e3
          have f4 := cell_old hbw e4
          have f5 := cell_old hbw e5
          clear hcc hff hbel e0 e1 e2 e3 e4 e5 x0 x1 x2 x3 x4 x5 hU
          have hbwe : bA < w'.heap.size := Nat.lt_of_lt_of_le hbwr hbw.size
          go_wp2_with (at_builtin; go_loud (refine wpList_append_at rfl _ _ 24 rfl (w.heap.size + 1) 50 6 56 (.agg #[.int .i64 0, .int .i64 0, .int .i64 0, .bool false, .int .u8 0, .slice none 0 0]) Try.underlying24 info_w rfl (by decide) A1 k c1 _ rfl IS2.out.own [.int .i64 at0, .int .i64 sq0, .int .i64 ti0, .bool mk0, .int .u8 ty0, .slice B0 pl0.length c0] rfl (by simp [Value.oneCell']) rfl (by unfold maxLen; omega) (by omega) IS2.out.hB ?_); intro An cn wn hown hgr hat)
          go_wp2_with fail
          go_roundg (gk - 1)
          case measure => omega
          case rel =>
            refine ⟨k + 1, An, cn, by omega, rfl, by go_num, Lib.hid ?_⟩
            rw [HTK.out]
            exact IS2.out.one (l2 := [_]) (by simpa [TW.row] using hown) hgr
      · obtain rfl : k = p := by omega
        have HCUT : Hid (RowsAt w w.heap.size 6 TW.row (some ⟨bA, oA + k * 6, none⟩) (l.drop k)) := Lib.hid (RowsAt.drop HA.out k)
        have k2 := Lib.hid fun W => before_any at0 sq0 ti0 ty0 xa xs xt xy mk0 xm B0 XB pl0.length c0 xp.length xc W false (by have h9 := HBG.out rfl; unfold befB Jb.bef at h9; exact h9.symm)
        go_wp2_with fail
        refine wp_region_held_drew (S := fun w' => Below wr.heap.size wr w' ∧ w'.cell? ⟨w.heap.size, 0, none⟩ = some (.int .i64 xa) ∧ w'.cell? ⟨w.heap.size, 1, none⟩ = some (.int .i64 xs) ∧ w'.cell? ⟨w.heap.size, 2, none⟩ = some (.int .i64 xt) ∧ w'.cell? ⟨w.heap.size, 3, none⟩ = some (.bool xm) ∧ w'.cell? ⟨w.heap.size, 4, none⟩ = some (.int .u8 xy) ∧ w'.cell? ⟨w.heap.size, 5, none⟩ = some (.slice XB xp.length xc) ∧ w'.cell? ⟨bA, oA + k * 6, none⟩ = some (.int .i64 at0) ∧ w'.cell? ⟨bA, oA + k * 6 + 1, none⟩ = some (.int .i64 sq0) ∧ w'.cell? ⟨bA, oA + k * 6 + 2, none⟩ = some (.int .i64 ti0) ∧ w'.cell? ⟨bA, oA + k * 6 + 3, none⟩ = some (.bool mk0) ∧ w'.cell? ⟨bA, oA + k * 6 + 4, none⟩ = some (.int .u8 ty0) ∧ w'.cell? ⟨bA, oA + k * 6 + 5, none⟩ = some (.slice B0 pl0.length c0)) (by kernel_rfl) ?_ (fun hHeld => ?_)
        · (first | assumption | ((try go_split_ands); refine and_dep ?_ (fun hbX => ⟨cell_old hbX x0, cell_old hbX x1, cell_old hbX x2, cell_old hbX x3, cell_old hbX x4, cell_old hbX x5, cell_old hbX e0, cell_old hbX e1, cell_old hbX e2, cell_old hbX e3, cell_old hbX e4, cell_old hbX e5⟩); (with_reducible repeat first | assumption | exact below_old' (by assumption) (by assumption) | refine Below.drew ?_ | refine below_new_old ?_ _)))
        first
          | (refine tk1 (i := 0) (v := ?_) rfl (Or.inl ⟨by rfl, ?_⟩) (by assumption) ?_
             rotate_left
             · (intro w hSw; (try dsimp only at hSw); go_simp; try with_reducible rfl))
          | refine tk1 (i := 0) (v := undef) rfl (Or.inr ⟨by rfl, rfl⟩) (by assumption) ?_
        try simp only [List.getElem_toArray, List.getElem_cons_zero, List.getElem_cons_succ, Act.put, List.setIfInBounds_toArray, List.set_cons_zero, List.set_cons_succ, HD1.out, HD2.out]
        first
          | (refine tk1 (i := 1) (v := ?_) rfl (Or.inl ⟨by rfl, ?_⟩) (by assumption) ?_
             rotate_left
             · (intro w hSw; (try dsimp only at hSw); go_simp; try with_reducible rfl))
          | refine tk1 (i := 1) (v := undef) rfl (Or.inr ⟨by rfl, rfl⟩) (by assumption) ?_
        try simp only [List.getElem_toArray, List.getElem_cons_zero, List.getElem_cons_succ, Act.put, List.setIfInBounds_toArray, List.set_cons_zero, List.set_cons_succ, HD1.out, HD2.out]
        first
          | (refine tk1 (i := 2) (v := ?_) rfl (Or.inl ⟨by rfl, ?_⟩) (by assumption) ?_
             rotate_left
             · (intro w hSw; (try dsimp only at hSw); go_simp; try with_reducible rfl))
          | refine tk1 (i := 2) (v := undef) rfl (Or.inr ⟨by rfl, rfl⟩) (by assumption) ?_
        try simp only [List.getElem_toArray, List.getElem_cons_zero, List.getElem_cons_succ, Act.put, List.setIfInBounds_toArray, List.set_cons_zero, List.set_cons_succ, HD1.out, HD2.out]
        first
          | (refine tk1 (i := 3) (v := ?_) rfl (Or.inl ⟨by rfl, ?_⟩) (by assumption) ?_
             rotate_left
             · (intro w hSw; (try dsimp only at hSw); go_simp; try with_reducible rfl))
          | refine tk1 (i := 3) (v := undef) rfl (Or.inr ⟨by rfl, rfl⟩) (by assumption) ?_
        try simp only [List.getElem_toArray, List.getElem_cons_zero, List.getElem_cons_succ, Act.put, List.setIfInBounds_toArray, List.set_cons_zero, List.set_cons_succ, HD1.out, HD2.out]
        first
          | (refine tk1 (i := 4) (v := ?_) rfl (Or.inl ⟨by rfl, ?_⟩) (by assumption) ?_
             rotate_left
             · (intro w hSw; (try dsimp only at hSw); go_simp; try with_reducible rfl))
          | refine tk1 (i := 4) (v := undef) rfl (Or.inr ⟨by rfl, rfl⟩) (by assumption) ?_
        try simp only [List.getElem_toArray, List.getElem_cons_zero, List.getElem_cons_succ, Act.put, List.setIfInBounds_toArray, List.set_cons_zero, List.set_cons_succ, HD1.out, HD2.out]
        first
          | (refine tk1 (i := 5) (v := ?_) rfl (Or.inl ⟨by rfl, ?_⟩) (by assumption) ?_
             rotate_left
             · (intro w hSw; (try dsimp only at hSw); go_simp; try with_reducible rfl))
          | refine tk1 (i := 5) (v := undef) rfl (Or.inr ⟨by rfl, rfl⟩) (by assumption) ?_
        try simp only [List.getElem_toArray, List.getElem_cons_zero, List.getElem_cons_succ, Act.put, List.setIfInBounds_toArray, List.set_cons_zero, List.set_cons_succ, HD1.out, HD2.out]
        first
          | (refine tk1 (i := 6) (v := ?_) rfl (Or.inl ⟨by rfl, ?_⟩) (by assumption) ?_
             rotate_left
             · (intro w hSw; (try dsimp only at hSw); go_simp; try with_reducible rfl))
          | refine tk1 (i := 6) (v := undef) rfl (Or.inr ⟨by rfl, rfl⟩) (by assumption) ?_
        try simp only [List.getElem_toArray, List.getElem_cons_zero, List.getElem_cons_succ, Act.put, List.setIfInBounds_toArray, List.set_cons_zero, List.set_cons_succ, HD1.out, HD2.out]
        first
          | (refine tk1 (i := 7) (v := ?_) rfl (Or.inl ⟨by rfl, ?_⟩) (by assumption) ?_
             rotate_left
             · (intro w hSw; (try dsimp only at hSw); go_simp; try with_reducible rfl))
          | refine tk1 (i := 7) (v := undef) rfl (Or.inr ⟨by rfl, rfl⟩) (by assumption) ?_
        try simp only [List.getElem_toArray, List.getElem_cons_zero, List.getElem_cons_succ, Act.put, List.setIfInBounds_toArray, List.set_cons_zero, List.set_cons_succ, HD1.out, HD2.out]
        first
          | (refine tk1 (i := 8) (v := ?_) rfl (Or.inl ⟨by rfl, ?_⟩) (by assumption) ?_
             rotate_left
             · (intro w hSw; (try dsimp only at hSw); go_simp; try with_reducible rfl))
          | refine tk1 (i := 8) (v := undef) rfl (Or.inr ⟨by rfl, rfl⟩) (by assumption) ?_
        try simp only [List.getElem_toArray, List.getElem_cons_zero, List.getElem_cons_succ, Act.put, List.setIfInBounds_toArray, List.set_cons_zero, List.set_cons_succ, HD1.out, HD2.out]
        first
          | (refine tk1 (i := 9) (v := ?_) rfl (Or.inl ⟨by rfl, ?_⟩) (by assumption) ?_
             rotate_left
             · (intro w hSw; (try dsimp only at hSw); go_simp; try with_reducible rfl))
          | refine tk1 (i := 9) (v := undef) rfl (Or.inr ⟨by rfl, rfl⟩) (by assumption) ?_
        try simp only [List.getElem_toArray, List.getElem_cons_zero, List.getElem_cons_succ, Act.put, List.setIfInBounds_toArray, List.set_cons_zero, List.set_cons_succ, HD1.out, HD2.out]
        refine wpAnyH_ready (rs := [10]) (by kernel_rfl) (by simp) ?_
        refine AllReadyH.cons (o := _) rfl (fun K hK => ?_) ?_
        rotate_left
        · exact AllReadyH.nil
        go_simp
        (go_at_call 55; refine (k2.out _).mono ?_; rintro e w' ⟨rfl, hbel⟩; have hbw : Below wr.heap.size wr w' := below_old' hbel (by (try go_split_ands); assumption); obtain ⟨hcc, hff⟩ := bcell hbel)
        refine hK.out _ _ ?_ (fun hHeld => ?_)
        · (try dsimp only)
          (first | assumption | ((try go_split_ands); refine and_dep ?_ (fun hbX => ⟨cell_old hbX x0, cell_old hbX x1, cell_old hbX x2, cell_old hbX x3, cell_old hbX x4, cell_old hbX x5, cell_old hbX e0, cell_old hbX e1, cell_old hbX e2, cell_old hbX e3, cell_old hbX e4, cell_old hbX e5⟩); (with_reducible repeat first | assumption | exact below_old' (by assumption) (by assumption) | refine Below.drew ?_ | refine below_new_old ?_ _)))
        clear hK K
        try simp only [List.getElem_toArray, List.getElem_cons_zero, List.getElem_cons_succ, Act.put, List.setIfInBounds_toArray, List.set_cons_zero, List.set_cons_succ, HD1.out, HD2.out]
        first
          | (refine tk1 (i := 11) (v := ?_) rfl (Or.inl ⟨by rfl, ?_⟩) (by assumption) ?_
             rotate_left
             · (intro w hSw; (try dsimp only at hSw); go_simp; try with_reducible rfl))
          | refine tk1 (i := 11) (v := undef) rfl (Or.inr ⟨by rfl, rfl⟩) (by assumption) ?_
        try simp only [List.getElem_toArray, List.getElem_cons_zero, List.getElem_cons_succ, Act.put, List.setIfInBounds_toArray, List.set_cons_zero, List.set_cons_succ, HD1.out, HD2.out]
        refine wpAnyH_done (by kernel_rfl) ?_ _
        all_goals
          have IS2 := IS.out.later hbw
          clear hcc hff hbel e0 e1 e2 e3 e4 e5 x0 x1 x2 x3 x4 x5 hU
          have hxl := IS2.bx.lt
          have y0 := IS2.bx.at 0 _ rfl
          have y1 := IS2.bx.at 1 _ rfl
          have y2 := IS2.bx.at 2 _ rfl
          have y3 := IS2.bx.at 3 _ rfl
          have y4 := IS2.bx.at 4 _ rfl
          have y5 := IS2.bx.at 5 _ rfl
          have IS9 := Lib.hid IS2
          go_upto_region 7 with fail
          have h5 : ((k : Nat) + 1) * 56 ≤ 140737488355328 := by omega
          have h6 : k + 1 ≤ maxLen := by unfold maxLen; omega
          have h7 := IS9.out.hB
          have HX := Lib.hid IS9.out.own
          go_upto_region 8 with (at_builtin; go_loud (refine wpList_append_at (w0 := w') rfl _ _ 24 rfl (w.heap.size + 1) 50 6 56 _ Try.underlying24 info_w rfl (by decide) A1 k c1 _ rfl HX.out [.int .i64 xa, .int .i64 xs, .int .i64 xt, .bool xm, .int .u8 xy, .slice XB xp.length xc] rfl (by simp [Value.oneCell']) rfl h6 h5 h7 ?_); intro A2 c2 wn hown hgr hat)
          have IS10 := Lib.hid (IS9.out.one (l2 := [⟨⟨xa, ⟨xs, xt, xm, xy, xp⟩⟩, XB, xc⟩]) (by simpa [TW.row] using hown) hgr)
          clear hown hgr hat y0 y1 y2 y3 y4 y5
          go_wp2_with (at_builtin; go_loud (refine wpList_append_rows rfl _ _ 24 rfl (w.heap.size + 1) 50 6 56 (.agg #[.int .i64 0, .int .i64 0, .int .i64 0, .bool false, .int .u8 0, .slice none 0 0]) Try.underlying24 info_w rfl (by decide) A2 (k + 1) c2 _ rfl IS10.out.own w.heap.size TW.row row_sixW row_oneW _ _ _ (l.drop k) rfl (RowsAt.keep HCUT.out (fun p hp => IS10.out.u.cell hp)) (by simp) (by unfold maxLen; simp <;> omega) (by simp <;> omega) IS10.out.hB (l.length + 1) (by simp <;> omega) ?_); intro A3 c3 wm hown hgr hat)
          have IS11 := IS10.out.one (l2 := l.drop k) hown hgr
          go_wp2_with fail
          go_ret
          exact ⟨A3, c3, rfl, by rw [HI.out]; simpa using IS11.own, IS11.u⟩
    have hi2 : (l.length : Int) ≤ (k : Int) := by omega
    obtain rfl : k = p := by omega
    have HCUT : Hid (RowsAt w w.heap.size 6 TW.row (some ⟨bA, oA + k * 6, none⟩) (l.drop k)) := Lib.hid (RowsAt.drop HA.out k)
    have hd1 : decide ((k : Int) < (l.length : Int)) = false := by rw [decide_eq_false_iff_not]; omega
    have hd2 : decide (k < l.length) = false := by rw [decide_eq_false_iff_not]; exact hk
    go_wp2_with fail
    go_quiet (fail)
    have IS2 := IS.out.drewN nq
    clear hd1 hd2
    have hxl := IS2.bx.lt
    have y0 := IS2.bx.at 0 _ rfl
    have y1 := IS2.bx.at 1 _ rfl
    have y2 := IS2.bx.at 2 _ rfl
    have y3 := IS2.bx.at 3 _ rfl
    have y4 := IS2.bx.at 4 _ rfl
    have y5 := IS2.bx.at 5 _ rfl
    have IS9 := Lib.hid IS2
    go_upto_region 7 with fail
    have h5 : ((k : Nat) + 1) * 56 ≤ 140737488355328 := by omega
    have h6 : k + 1 ≤ maxLen := by unfold maxLen; omega
    have h7 := IS9.out.hB
    have HX := Lib.hid IS9.out.own
    go_upto_region 8 with (at_builtin; go_loud (refine wpList_append_at (w0 := World.drewN wr nq) rfl _ _ 24 rfl (w.heap.size + 1) 50 6 56 _ Try.underlying24 info_w rfl (by decide) A1 k c1 _ rfl HX.out [.int .i64 xa, .int .i64 xs, .int .i64 xt, .bool xm, .int .u8 xy, .slice XB xp.length xc] rfl (by simp [Value.oneCell']) rfl h6 h5 h7 ?_); intro A2 c2 wn hown hgr hat)
    have IS10 := Lib.hid (IS9.out.one (l2 := [⟨⟨xa, ⟨xs, xt, xm, xy, xp⟩⟩, XB, xc⟩]) (by simpa [TW.row] using hown) hgr)
    clear hown hgr hat y0 y1 y2 y3 y4 y5
    go_wp2_with (at_builtin; go_loud (refine wpList_append_rows rfl _ _ 24 rfl (w.heap.size + 1) 50 6 56 (.agg #[.int .i64 0, .int .i64 0, .int .i64 0, .bool false, .int .u8 0, .slice none 0 0]) Try.underlying24 info_w rfl (by decide) A2 (k + 1) c2 _ rfl IS10.out.own w.heap.size TW.row row_sixW row_oneW _ _ _ (l.drop k) rfl (RowsAt.keep HCUT.out (fun p hp => IS10.out.u.cell hp)) (by simp) (by unfold maxLen; simp <;> omega) (by simp <;> omega) IS10.out.hB (l.length + 1) (by simp <;> omega) ?_); intro A3 c3 wm hown hgr hat)
    have IS11 := IS10.out.one (l2 := l.drop k) hown hgr
    go_wp2_with fail
    go_ret
    exact ⟨A3, c3, rfl, by rw [HI.out]; simpa using IS11.own, IS11.u⟩
set_option maxRecDepth 100000 in
set_option maxHeartbeats 12800000 in
theorem rins_end (bA oA : Nat) (l : List TW) (n c : Nat) (xa xs xt : Int) (xm : Bool) (xy : Int) (XB : Option Addr) (xp : List Int) (xc : Nat) (w : World) (hn : l.length = n) (hl : n ≤ 1000) (hcap : n ≤ c) (hcm : c ≤ maxLen) (hA : RowsAt w w.heap.size 6 TW.row (some ⟨bA, oA, none⟩) l) (hcp : c ≤ (l.takeWhile (befB ⟨⟨xa, ⟨xs, xt, xm, xy, xp⟩⟩, XB, xc⟩)).length) : Calls Try.prog 40 #[.slice (some ⟨bA, oA, none⟩) n c, .agg #[.int .i64 xa, .int .i64 xs, .int .i64 xt, .bool xm, .int .u8 xy, .slice XB xp.length xc]] w (RInsR l ⟨⟨xa, ⟨xs, xt, xm, xy, xp⟩⟩, XB, xc⟩ w) := by
  subst hn
  obtain ⟨w1, w2, w3, w4, w5⟩ := while_len (befB ⟨⟨xa, ⟨xs, xt, xm, xy, xp⟩⟩, XB, xc⟩) l
  generalize hp : (l.takeWhile (befB ⟨⟨xa, ⟨xs, xt, xm, xy, xp⟩⟩, XB, xc⟩)).length = p at w1 w2 w3 w4 w5 hcp
  have HA := Lib.hid hA
  have H4 := Lib.hid w4
  have H5 := Lib.hid w5
  have hins : insT l ⟨⟨xa, ⟨xs, xt, xm, xy, xp⟩⟩, XB, xc⟩ = l.take p ++ (⟨⟨xa, ⟨xs, xt, xm, xy, xp⟩⟩, XB, xc⟩ :: l.drop p) := by unfold insT; rw [← w1, ← w2]
  have HI := Lib.hid hins
  clear hA w1 w2 w4 w5 hp hins
  unfold maxLen at hcm
  have IS0 : Hid (ISt w (w.alloc (.cells #[.int .i64 xa, .int .i64 xs, .int .i64 xt, .bool xm, .int .u8 xy, .slice XB xp.length xc] 50)) [.int .i64 xa, .int .i64 xs, .int .i64 xt, .bool xm, .int .u8 xy, .slice XB xp.length xc] none 0 0 []) := Lib.hid ⟨Blk.new w _ _, (Bel.refl w).push _, Owns.nil, by simp⟩
  go_enter Try.func40, Try.ntmps40
  go_wp2_with fail
  go_loopg [5, 6] p (fun gk s5 i wr => ∃ (k : Nat) (A1 : Option Addr) (c1 : Nat), gk + k = p ∧ s5 = .slice A1 k c1 ∧ i = .int .i64 k ∧ Hid (ISt w wr [.int .i64 xa, .int .i64 xs, .int .i64 xt, .bool xm, .int .u8 xy, .slice XB xp.length xc] A1 k c1 (l.take k)))
  case atStart => exact ⟨0, none, 0, rfl, rfl, rfl, IS0⟩
  case round =>
    obtain ⟨k, A1, c1, hgk, rfl, rfl, IS⟩ := hrel
    have hi0 : (0 : Int) ≤ (k : Int) := by omega
    have hwl := IS.out.bx.lt
    have x0 := IS.out.bx.at 0 _ rfl
    have x1 := IS.out.bx.at 1 _ rfl
    have x2 := IS.out.bx.at 2 _ rfl
    have x3 := IS.out.bx.at 3 _ rfl
    have x4 := IS.out.bx.at 4 _ rfl
    have x5 := IS.out.bx.at 5 _ rfl
    by_cases hk : k < l.length
    · have hi1 : (k : Int) < (l.length : Int) := by omega
      have hd1 : decide ((k : Int) < (l.length : Int)) = true := by rw [decide_eq_true_iff]; exact hi1
      have hd2 : decide (k < l.length) = true := by rw [decide_eq_true_iff]; exact hk
      have HD1 := Lib.hid hd1
      have HD2 := Lib.hid hd2
      have hU : Below wr.heap.size wr wr := Below.refl _ _
      clear hd1 hd2
      obtain ⟨a, ha⟩ : ∃ a, l[k]? = some a := ⟨_, List.getElem?_eq_getElem hk⟩
      obtain ⟨b, off, hbo, hbB, e0, e1, e2, e3, e4, e5⟩ := rowsW (HA.out.keep (fun p hp => IS.out.u.cell hp)) ha
      injection hbo with hbo
      injection hbo with hbo1 hbo2
      subst hbo1 hbo2
      have HTK : Hid (l.take (k + 1) = l.take k ++ [a]) := Lib.hid (by rw [List.take_add_one, ha]; rfl)
      have HBF : Hid (k < p → befB ⟨⟨xa, ⟨xs, xt, xm, xy, xp⟩⟩, XB, xc⟩ a = true) := Lib.hid (fun h => H4.out k a h ha)
      have HBG : Hid (k = p → befB ⟨⟨xa, ⟨xs, xt, xm, xy, xp⟩⟩, XB, xc⟩ a = false) := Lib.hid (fun h => H5.out a (by rw [← h]; exact ha))
      obtain ⟨⟨at0, ⟨sq0, ti0, mk0, ty0, pl0⟩⟩, B0, c0⟩ := a
      simp only at e0 e1 e2 e3 e4 e5
      have hbwr : bA < wr.heap.size := by have := IS.out.u.size; omega
      clear ha
      by_cases hkp : k < p
      · have k2 := Lib.hid fun W => before_any at0 sq0 ti0 ty0 xa xs xt xy mk0 xm B0 XB pl0.length c0 xp.length xc W true (by have h9 := HBF.out hkp; unfold befB Jb.bef at h9; exact h9.symm)
        go_wp2_with fail
        refine wp_region_held_drew (S := fun w' => Below wr.heap.size wr w' ∧ w'.cell? ⟨w.heap.size, 0, none⟩ = some (.int .i64 xa) ∧ w'.cell? ⟨w.heap.size, 1, none⟩ = some (.int .i64 xs) ∧ w'.cell? ⟨w.heap.size, 2, none⟩ = some (.int .i64 xt) ∧ w'.cell? ⟨w.heap.size, 3, none⟩ = some (.bool xm) ∧ w'.cell? ⟨w.heap.size, 4, none⟩ = some (.int .u8 xy) ∧ w'.cell? ⟨w.heap.size, 5, none⟩ = some (.slice XB xp.length xc) ∧ w'.cell? ⟨bA, oA + k * 6, none⟩ = some (.int .i64 at0) ∧ w'.cell? ⟨bA, oA + k * 6 + 1, none⟩ = some (.int .i64 sq0) ∧ w'.cell? ⟨bA, oA + k * 6 + 2, none⟩ = some (.int .i64 ti0) ∧ w'.cell? ⟨bA, oA + k * 6 + 3, none⟩ = some (.bool mk0) ∧ w'.cell? ⟨bA, oA + k * 6 + 4, none⟩ = some (.int .u8 ty0) ∧ w'.cell? ⟨bA, oA + k * 6 + 5, none⟩ = some (.slice B0 pl0.length c0)) (by kernel_rfl) ?_ (fun hHeld => ?_)
        · (first | assumption | ((try go_split_ands); refine and_dep ?_ (fun hbX => ⟨cell_old hbX x0, cell_old hbX x1, cell_old hbX x2, cell_old hbX x3, cell_old hbX x4, cell_old hbX x5, cell_old hbX e0, cell_old hbX e1, cell_old hbX e2, cell_old hbX e3, cell_old hbX e4, cell_old hbX e5⟩); (with_reducible repeat first | assumption | exact below_old' (by assumption) (by assumption) | refine Below.drew ?_ | refine below_new_old ?_ _)))
        first
          | (refine tk1 (i := 0) (v := ?_) rfl (Or.inl ⟨by rfl, ?_⟩) (by assumption) ?_
             rotate_left
             · (intro w hSw; (try dsimp only at hSw); go_simp; try with_reducible rfl))
          | refine tk1 (i := 0) (v := undef) rfl (Or.inr ⟨by rfl, rfl⟩) (by assumption) ?_
        try simp only [List.getElem_toArray, List.getElem_cons_zero, List.getElem_cons_succ, Act.put, List.setIfInBounds_toArray, List.set_cons_zero, List.set_cons_succ, HD1.out, HD2.out]
        first
          | (refine tk1 (i := 1) (v := ?_) rfl (Or.inl ⟨by rfl, ?_⟩) (by assumption) ?_
             rotate_left
             · (intro w hSw; (try dsimp only at hSw); go_simp; try with_reducible rfl))
          | refine tk1 (i := 1) (v := undef) rfl (Or.inr ⟨by rfl, rfl⟩) (by assumption) ?_
        try simp only [List.getElem_toArray, List.getElem_cons_zero, List.getElem_cons_succ, Act.put, List.setIfInBounds_toArray, List.set_cons_zero, List.set_cons_succ, HD1.out, HD2.out]
        first
          | (refine tk1 (i := 2) (v := ?_) rfl (Or.inl ⟨by rfl, ?_⟩) (by assumption) ?_
             rotate_left
             · (intro w hSw; (try dsimp only at hSw); go_simp; try with_reducible rfl))
          | refine tk1 (i := 2) (v := undef) rfl (Or.inr ⟨by rfl, rfl⟩) (by assumption) ?_
        try simp only [List.getElem_toArray, List.getElem_cons_zero, List.getElem_cons_succ, Act.put, List.setIfInBounds_toArray, List.set_cons_zero, List.set_cons_succ, HD1.out, HD2.out]
        first
          | (refine tk1 (i := 3) (v := ?_) rfl (Or.inl ⟨by rfl, ?_⟩) (by assumption) ?_
             rotate_left
             · (intro w hSw; (try dsimp only at hSw); go_simp; try with_reducible rfl))
          | refine tk1 (i := 3) (v := undef) rfl (Or.inr ⟨by rfl, rfl⟩) (by assumption) ?_
        try simp only [List.getElem_toArray, List.getElem_cons_zero, List.getElem_cons_succ, Act.put, List.setIfInBounds_toArray, List.set_cons_zero, List.set_cons_succ, HD1.out, HD2.out]
        first
          | (refine tk1 (i := 4) (v := ?_) rfl (Or.inl ⟨by rfl, ?_⟩) (by assumption) ?_
             rotate_left
             · (intro w hSw; (try dsimp only at hSw); go_simp; try with_reducible rfl))
          | refine tk1 (i := 4) (v := undef) rfl (Or.inr ⟨by rfl, rfl⟩) (by assumption) ?_
        try simp only [List.getElem_toArray, List.getElem_cons_zero, List.getElem_cons_succ, Act.put, List.setIfInBounds_toArray, List.set_cons_zero, List.set_cons_succ, HD1.out, HD2.out]
        first
          | (refine tk1 (i := 5) (v := ?_) rfl (Or.inl ⟨by rfl, ?_⟩) (by assumption) ?_
             rotate_left
             · (intro w hSw; (try dsimp only at hSw); go_simp; try with_reducible rfl))
          | refine tk1 (i := 5) (v := undef) rfl (Or.inr ⟨by rfl, rfl⟩) (by assumption) ?_
        try simp only [List.getElem_toArray, List.getElem_cons_zero, List.getElem_cons_succ, Act.put, List.setIfInBounds_toArray, List.set_cons_zero, List.set_cons_succ, HD1.out, HD2.out]
        first
          | (refine tk1 (i := 6) (v := ?_) rfl (Or.inl ⟨by rfl, ?_⟩) (by assumption) ?_
             rotate_left
             · (intro w hSw; (try dsimp only at hSw); go_simp; try with_reducible rfl))
          | refine tk1 (i := 6) (v := undef) rfl (Or.inr ⟨by rfl, rfl⟩) (by assumption) ?_
        try simp only [List.getElem_toArray, List.getElem_cons_zero, List.getElem_cons_succ, Act.put, List.setIfInBounds_toArray, List.set_cons_zero, List.set_cons_succ, HD1.out, HD2.out]
        first
          | (refine tk1 (i := 7) (v := ?_) rfl (Or.inl ⟨by rfl, ?_⟩) (by assumption) ?_
             rotate_left
             · (intro w hSw; (try dsimp only at hSw); go_simp; try with_reducible rfl))
          | refine tk1 (i := 7) (v := undef) rfl (Or.inr ⟨by rfl, rfl⟩) (by assumption) ?_
        try simp only [List.getElem_toArray, List.getElem_cons_zero, List.getElem_cons_succ, Act.put, List.setIfInBounds_toArray, List.set_cons_zero, List.set_cons_succ, HD1.out, HD2.out]
        first
          | (refine tk1 (i := 8) (v := ?_) rfl (Or.inl ⟨by rfl, ?_⟩) (by assumption) ?_
             rotate_left
             · (intro w hSw; (try dsimp only at hSw); go_simp; try with_reducible rfl))
          | refine tk1 (i := 8) (v := undef) rfl (Or.inr ⟨by rfl, rfl⟩) (by assumption) ?_
        try simp only [List.getElem_toArray, List.getElem_cons_zero, List.getElem_cons_succ, Act.put, List.setIfInBounds_toArray, List.set_cons_zero, List.set_cons_succ, HD1.out, HD2.out]
        first
          | (refine tk1 (i := 9) (v := ?_) rfl (Or.inl ⟨by rfl, ?_⟩) (by assumption) ?_
             rotate_left
             · (intro w hSw; (try dsimp only at hSw); go_simp; try with_reducible rfl))
          | refine tk1 (i := 9) (v := undef) rfl (Or.inr ⟨by rfl, rfl⟩) (by assumption) ?_
        try simp only [List.getElem_toArray, List.getElem_cons_zero, List.getElem_cons_succ, Act.put, List.setIfInBounds_toArray, List.set_cons_zero, List.set_cons_succ, HD1.out, HD2.out]
        refine wpAnyH_ready (rs := [10]) (by kernel_rfl) (by simp) ?_
        refine AllReadyH.cons (o := _) rfl (fun K hK => ?_) ?_
        rotate_left
        · exact AllReadyH.nil
        go_simp
        (go_at_call 55; refine (k2.out _).mono ?_; rintro e w' ⟨rfl, hbel⟩; have hbw : Below wr.heap.size wr w' := below_old' hbel (by (try go_split_ands); assumption); obtain ⟨hcc, hff⟩ := bcell hbel)
        refine hK.out _ _ ?_ (fun hHeld => ?_)
        · (try dsimp only)
          (first | assumption | ((try go_split_ands); refine and_dep ?_ (fun hbX => ⟨cell_old hbX x0, cell_old hbX x1, cell_old hbX x2, cell_old hbX x3, cell_old hbX x4, cell_old hbX x5, cell_old hbX e0, cell_old hbX e1, cell_old hbX e2, cell_old hbX e3, cell_old hbX e4, cell_old hbX e5⟩); (with_reducible repeat first | assumption | exact below_old' (by assumption) (by assumption) | refine Below.drew ?_ | refine below_new_old ?_ _)))
        clear hK K
        try simp only [List.getElem_toArray, List.getElem_cons_zero, List.getElem_cons_succ, Act.put, List.setIfInBounds_toArray, List.set_cons_zero, List.set_cons_succ, HD1.out, HD2.out]
        first
          | (refine tk1 (i := 11) (v := ?_) rfl (Or.inl ⟨by rfl, ?_⟩) (by assumption) ?_
             rotate_left
             · (intro w hSw; (try dsimp only at hSw); go_simp; try with_reducible rfl))
          | refine tk1 (i := 11) (v := undef) rfl (Or.inr ⟨by rfl, rfl⟩) (by assumption) ?_
        try simp only [List.getElem_toArray, List.getElem_cons_zero, List.getElem_cons_succ, Act.put, List.setIfInBounds_toArray, List.set_cons_zero, List.set_cons_succ, HD1.out, HD2.out]
        refine wpAnyH_done (by kernel_rfl) ?_ _
        all_goals
          have IS2 := Lib.hid (IS.out.later hbw)
          have f0 := cell_old hbw e0
          have f1 := cell_old hbw e1
          have f2 := cell_old hbw e2
          have f3 := cell_old hbw e3
          have f4 := cell_old hbw e4
          have f5 := cell_old hbw e5
          clear hcc hff hbel e0 e1 e2 e3 e4 e5 x0 x1 x2 x3 x4 x5 hU
          have hbwe : bA < w'.heap.size := Nat.lt_of_lt_of_le hbwr hbw.size
          go_wp2_with (at_builtin; go_loud (refine wpList_append_at rfl _ _ 24 rfl (w.heap.size + 1) 50 6 56 (.agg #[.int .i64 0, .int .i64 0, .int .i64 0, .bool false, .int .u8 0, .slice none 0 0]) Try.underlying24 info_w rfl (by decide) A1 k c1 _ rfl IS2.out.own [.int .i64 at0, .int .i64 sq0, .int .i64 ti0, .bool mk0, .int .u8 ty0, .slice B0 pl0.length c0] rfl (by simp [Value.oneCell']) rfl (by unfold maxLen; omega) (by omega) IS2.out.hB ?_); intro An cn wn hown hgr hat)
          go_wp2_with fail
          go_roundg (gk - 1)
          case measure => omega
          case rel =>
            refine ⟨k + 1, An, cn, by omega, rfl, by go_num, Lib.hid ?_⟩
            rw [HTK.out]
            exact IS2.out.one (l2 := [_]) (by simpa [TW.row] using hown) hgr
      · exfalso
        omega
    have hi2 : (l.length : Int) ≤ (k : Int) := by omega
    obtain rfl : k = p := by omega
    have HCUT : Hid (RowsAt w w.heap.size 6 TW.row (some ⟨bA, oA, none⟩) (l.drop k)) := Lib.hid (RowsAt.nil' (by simp <;> omega))
    have hd1 : decide ((k : Int) < (l.length : Int)) = false := by rw [decide_eq_false_iff_not]; omega
    have hd2 : decide (k < l.length) = false := by rw [decide_eq_false_iff_not]; exact hk
    go_wp2_with fail
    go_quiet (fail)
    have IS2 := IS.out.drewN nq
    clear hd1 hd2
    have hxl := IS2.bx.lt
    have y0 := IS2.bx.at 0 _ rfl
    have y1 := IS2.bx.at 1 _ rfl
    have y2 := IS2.bx.at 2 _ rfl
    have y3 := IS2.bx.at 3 _ rfl
    have y4 := IS2.bx.at 4 _ rfl
    have y5 := IS2.bx.at 5 _ rfl
    have IS9 := Lib.hid IS2
    go_upto_region 7 with fail
    have h5 : ((k : Nat) + 1) * 56 ≤ 140737488355328 := by omega
    have h6 : k + 1 ≤ maxLen := by unfold maxLen; omega
    have h7 := IS9.out.hB
    have HX := Lib.hid IS9.out.own
    go_upto_region 8 with (at_builtin; go_loud (refine wpList_append_at (w0 := World.drewN wr nq) rfl _ _ 24 rfl (w.heap.size + 1) 50 6 56 _ Try.underlying24 info_w rfl (by decide) A1 k c1 _ rfl HX.out [.int .i64 xa, .int .i64 xs, .int .i64 xt, .bool xm, .int .u8 xy, .slice XB xp.length xc] rfl (by simp [Value.oneCell']) rfl h6 h5 h7 ?_); intro A2 c2 wn hown hgr hat)
    have IS10 := Lib.hid (IS9.out.one (l2 := [⟨⟨xa, ⟨xs, xt, xm, xy, xp⟩⟩, XB, xc⟩]) (by simpa [TW.row] using hown) hgr)
    clear hown hgr hat y0 y1 y2 y3 y4 y5
    go_wp2_with (at_builtin; go_loud (refine wpList_append_rows rfl _ _ 24 rfl (w.heap.size + 1) 50 6 56 (.agg #[.int .i64 0, .int .i64 0, .int .i64 0, .bool false, .int .u8 0, .slice none 0 0]) Try.underlying24 info_w rfl (by decide) A2 (k + 1) c2 _ rfl IS10.out.own w.heap.size TW.row row_sixW row_oneW _ _ _ (l.drop k) rfl (RowsAt.keep HCUT.out (fun p hp => IS10.out.u.cell hp)) (by simp) (by unfold maxLen; simp <;> omega) (by simp <;> omega) IS10.out.hB (l.length + 1) (by simp <;> omega) ?_); intro A3 c3 wm hown hgr hat)
    have IS11 := IS10.out.one (l2 := l.drop k) hown hgr
    go_wp2_with fail
    go_ret
    exact ⟨A3, c3, rfl, by rw [HI.out]; simpa using IS11.own, IS11.u⟩
set_option maxRecDepth 100000 in
set_option maxHeartbeats 12800000 in
theorem rins_no (l : List TW) (n c : Nat) (xa xs xt : Int) (xm : Bool) (xy : Int) (XB : Option Addr) (xp : List Int) (xc : Nat) (w : World) (hn : l.length = n) (hl : n ≤ 1000) (hcap : n ≤ c) (hcm : c ≤ maxLen) (hA : RowsAt w w.heap.size 6 TW.row none l) (h0 : l.length = 0) : Calls Try.prog 40 #[.slice none n c, .agg #[.int .i64 xa, .int .i64 xs, .int .i64 xt, .bool xm, .int .u8 xy, .slice XB xp.length xc]] w (RInsR l ⟨⟨xa, ⟨xs, xt, xm, xy, xp⟩⟩, XB, xc⟩ w) := by
  obtain rfl : l = [] := List.eq_nil_of_length_eq_zero h0
  subst hn
  clear h0
  have HA := Lib.hid hA
  have HI : Hid (insT [] ⟨⟨xa, ⟨xs, xt, xm, xy, xp⟩⟩, XB, xc⟩ = [⟨⟨xa, ⟨xs, xt, xm, xy, xp⟩⟩, XB, xc⟩]) := Lib.hid rfl
  clear hA
  unfold maxLen at hcm
  have IS0 : Hid (ISt w (w.alloc (.cells #[.int .i64 xa, .int .i64 xs, .int .i64 xt, .bool xm, .int .u8 xy, .slice XB xp.length xc] 50)) [.int .i64 xa, .int .i64 xs, .int .i64 xt, .bool xm, .int .u8 xy, .slice XB xp.length xc] none 0 0 []) := Lib.hid ⟨Blk.new w _ _, (Bel.refl w).push _, Owns.nil, by simp⟩
  go_enter Try.func40, Try.ntmps40
  go_wp2_with fail
  go_loopg [5, 6] 0 (fun gk s5 i wr => ∃ (k : Nat) (A1 : Option Addr) (c1 : Nat), gk + k = 0 ∧ s5 = .slice A1 k c1 ∧ i = .int .i64 k ∧ Hid (ISt w wr [.int .i64 xa, .int .i64 xs, .int .i64 xt, .bool xm, .int .u8 xy, .slice XB xp.length xc] A1 k c1 ([])))
  case atStart => exact ⟨0, none, 0, rfl, rfl, rfl, IS0⟩
  case round =>
    obtain ⟨k, A1, c1, hgk, rfl, rfl, IS⟩ := hrel
    have hi0 : (0 : Int) ≤ (k : Int) := by omega
    have hwl := IS.out.bx.lt
    have x0 := IS.out.bx.at 0 _ rfl
    have x1 := IS.out.bx.at 1 _ rfl
    have x2 := IS.out.bx.at 2 _ rfl
    have x3 := IS.out.bx.at 3 _ rfl
    have x4 := IS.out.bx.at 4 _ rfl
    have x5 := IS.out.bx.at 5 _ rfl
    have hk : ¬k < 0 := by omega
    have hi2 : (0 : Int) ≤ (k : Int) := by omega
    obtain rfl : k = 0 := by omega
    have HCUT : Hid (RowsAt w w.heap.size 6 TW.row none ([] : List TW)) := Lib.hid (RowsAt.nil' (by simp <;> omega))
    have hd1 : decide ((0 : Int) < 0) = false := by rw [decide_eq_false_iff_not]; omega
    have hd2 : decide (0 < 0) = false := by rw [decide_eq_false_iff_not]; omega
    go_wp2_with fail
    go_quiet (fail)
    have IS2 := IS.out.drewN nq
    clear hd1 hd2
    have hxl := IS2.bx.lt
    have y0 := IS2.bx.at 0 _ rfl
    have y1 := IS2.bx.at 1 _ rfl
    have y2 := IS2.bx.at 2 _ rfl
    have y3 := IS2.bx.at 3 _ rfl
    have y4 := IS2.bx.at 4 _ rfl
    have y5 := IS2.bx.at 5 _ rfl
    have IS9 := Lib.hid IS2
    go_upto_region 7 with fail
    have h5 : ((0 : Nat) + 1) * 56 ≤ 140737488355328 := by omega
    have h6 : 0 + 1 ≤ maxLen := by unfold maxLen; omega
    have h7 := IS9.out.hB
    have HX := Lib.hid IS9.out.own
    go_upto_region 8 with (at_builtin; go_loud (refine wpList_append_at (w0 := World.drewN wr nq) rfl _ _ 24 rfl (w.heap.size + 1) 50 6 56 _ Try.underlying24 info_w rfl (by decide) A1 0 c1 _ rfl HX.out [.int .i64 xa, .int .i64 xs, .int .i64 xt, .bool xm, .int .u8 xy, .slice XB xp.length xc] rfl (by simp [Value.oneCell']) rfl h6 h5 h7 ?_); intro A2 c2 wn hown hgr hat)
    have IS10 := Lib.hid (IS9.out.one (l2 := [⟨⟨xa, ⟨xs, xt, xm, xy, xp⟩⟩, XB, xc⟩]) (by simpa [TW.row] using hown) hgr)
    clear hown hgr hat y0 y1 y2 y3 y4 y5
    go_wp2_with (at_builtin; go_loud (refine wpList_append_rows rfl _ _ 24 rfl (w.heap.size + 1) 50 6 56 (.agg #[.int .i64 0, .int .i64 0, .int .i64 0, .bool false, .int .u8 0, .slice none 0 0]) Try.underlying24 info_w rfl (by decide) A2 (0 + 1) c2 _ rfl IS10.out.own w.heap.size TW.row row_sixW row_oneW _ _ _ ([] : List TW) rfl (RowsAt.keep HCUT.out (fun p hp => IS10.out.u.cell hp)) (by simp) (by unfold maxLen; simp <;> omega) (by simp <;> omega) IS10.out.hB (0 + 1) (by simp <;> omega) ?_); intro A3 c3 wm hown hgr hat)
    have IS11 := IS10.out.one (l2 := []) hown hgr
    go_wp2_with fail
    go_ret
    exact ⟨A3, c3, rfl, by rw [HI.out]; simpa using IS11.own, IS11.u⟩
set_option maxRecDepth 100000 in
set_option maxHeartbeats 12800000 in
theorem rins_no0 (ad : Addr) (l : List TW) (n c : Nat) (xa xs xt : Int) (xm : Bool) (xy : Int) (XB : Option Addr) (xp : List Int) (xc : Nat) (w : World) (hn : l.length = n) (hl : n ≤ 1000) (hcap : n ≤ c) (hcm : c ≤ maxLen) (hA : RowsAt w w.heap.size 6 TW.row (some ad) l) (h0 : l.length = 0) : Calls Try.prog 40 #[.slice (some ad) n c, .agg #[.int .i64 xa, .int .i64 xs, .int .i64 xt, .bool xm, .int .u8 xy, .slice XB xp.length xc]] w (RInsR l ⟨⟨xa, ⟨xs, xt, xm, xy, xp⟩⟩, XB, xc⟩ w) := by
  obtain rfl : l = [] := List.eq_nil_of_length_eq_zero h0
  subst hn
  clear h0
  have HA := Lib.hid hA
  have HI : Hid (insT [] ⟨⟨xa, ⟨xs, xt, xm, xy, xp⟩⟩, XB, xc⟩ = [⟨⟨xa, ⟨xs, xt, xm, xy, xp⟩⟩, XB, xc⟩]) := Lib.hid rfl
  clear hA
  unfold maxLen at hcm
  have IS0 : Hid (ISt w (w.alloc (.cells #[.int .i64 xa, .int .i64 xs, .int .i64 xt, .bool xm, .int .u8 xy, .slice XB xp.length xc] 50)) [.int .i64 xa, .int .i64 xs, .int .i64 xt, .bool xm, .int .u8 xy, .slice XB xp.length xc] none 0 0 []) := Lib.hid ⟨Blk.new w _ _, (Bel.refl w).push _, Owns.nil, by simp⟩
  go_enter Try.func40, Try.ntmps40
  go_wp2_with fail
  go_loopg [5, 6] 0 (fun gk s5 i wr => ∃ (k : Nat) (A1 : Option Addr) (c1 : Nat), gk + k = 0 ∧ s5 = .slice A1 k c1 ∧ i = .int .i64 k ∧ Hid (ISt w wr [.int .i64 xa, .int .i64 xs, .int .i64 xt, .bool xm, .int .u8 xy, .slice XB xp.length xc] A1 k c1 ([])))
  case atStart => exact ⟨0, none, 0, rfl, rfl, rfl, IS0⟩
  case round =>
    obtain ⟨k, A1, c1, hgk, rfl, rfl, IS⟩ := hrel
    have hi0 : (0 : Int) ≤ (k : Int) := by omega
    have hwl := IS.out.bx.lt
    have x0 := IS.out.bx.at 0 _ rfl
    have x1 := IS.out.bx.at 1 _ rfl
    have x2 := IS.out.bx.at 2 _ rfl
    have x3 := IS.out.bx.at 3 _ rfl
    have x4 := IS.out.bx.at 4 _ rfl
    have x5 := IS.out.bx.at 5 _ rfl
    have hk : ¬k < 0 := by omega
    have hi2 : (0 : Int) ≤ (k : Int) := by omega
    obtain rfl : k = 0 := by omega
    have HCUT : Hid (RowsAt w w.heap.size 6 TW.row (some ad) ([] : List TW)) := Lib.hid (RowsAt.nil' (by simp <;> omega))
    have hd1 : decide ((0 : Int) < 0) = false := by rw [decide_eq_false_iff_not]; omega
    have hd2 : decide (0 < 0) = false := by rw [decide_eq_false_iff_not]; omega
    go_wp2_with fail
    go_quiet (fail)
    have IS2 := IS.out.drewN nq
    clear hd1 hd2
    have hxl := IS2.bx.lt
    have y0 := IS2.bx.at 0 _ rfl
    have y1 := IS2.bx.at 1 _ rfl
    have y2 := IS2.bx.at 2 _ rfl
    have y3 := IS2.bx.at 3 _ rfl
    have y4 := IS2.bx.at 4 _ rfl
    have y5 := IS2.bx.at 5 _ rfl
    have IS9 := Lib.hid IS2
    go_upto_region 7 with fail
    have h5 : ((0 : Nat) + 1) * 56 ≤ 140737488355328 := by omega
    have h6 : 0 + 1 ≤ maxLen := by unfold maxLen; omega
    have h7 := IS9.out.hB
    have HX := Lib.hid IS9.out.own
    go_upto_region 8 with (at_builtin; go_loud (refine wpList_append_at (w0 := World.drewN wr nq) rfl _ _ 24 rfl (w.heap.size + 1) 50 6 56 _ Try.underlying24 info_w rfl (by decide) A1 0 c1 _ rfl HX.out [.int .i64 xa, .int .i64 xs, .int .i64 xt, .bool xm, .int .u8 xy, .slice XB xp.length xc] rfl (by simp [Value.oneCell']) rfl h6 h5 h7 ?_); intro A2 c2 wn hown hgr hat)
    have IS10 := Lib.hid (IS9.out.one (l2 := [⟨⟨xa, ⟨xs, xt, xm, xy, xp⟩⟩, XB, xc⟩]) (by simpa [TW.row] using hown) hgr)
    clear hown hgr hat y0 y1 y2 y3 y4 y5
    go_wp2_with (at_builtin; go_loud (refine wpList_append_rows rfl _ _ 24 rfl (w.heap.size + 1) 50 6 56 (.agg #[.int .i64 0, .int .i64 0, .int .i64 0, .bool false, .int .u8 0, .slice none 0 0]) Try.underlying24 info_w rfl (by decide) A2 (0 + 1) c2 _ rfl IS10.out.own w.heap.size TW.row row_sixW row_oneW _ _ _ ([] : List TW) rfl (RowsAt.keep HCUT.out (fun p hp => IS10.out.u.cell hp)) (by simp) (by unfold maxLen; simp <;> omega) (by simp <;> omega) IS10.out.hB (0 + 1) (by simp <;> omega) ?_); intro A3 c3 wm hown hgr hat)
    have IS11 := IS10.out.one (l2 := []) hown hgr
    go_wp2_with fail
    go_ret
    exact ⟨A3, c3, rfl, by rw [HI.out]; simpa using IS11.own, IS11.u⟩
theorem rins_any (l : List TW) (x : TW) (A : Option Addr) (n c : Nat) (w : World) (hn : l.length = n) (hl : n ≤ 1000) (hcap : n ≤ c) (hcm : c ≤ maxLen) (hA : RowsAt w w.heap.size 6 TW.row A l) : Calls Try.prog 40 #[.slice A n c, .agg x.row.toArray] w (RInsR l x w) := by
  obtain ⟨⟨xa, ⟨xs, xt, xm, xy, xp⟩⟩, XB, xc⟩ := x
  rcases Nat.eq_zero_or_pos l.length with h0 | h0
  · rcases A with _ | ad
    · exact rins_no l n c xa xs xt xm xy XB xp xc w hn hl hcap hcm hA h0
    · exact rins_no0 ad l n c xa xs xt xm xy XB xp xc w hn hl hcap hcm hA h0
  · obtain ⟨bA, oA, rfl, _⟩ := hA h0
    by_cases hcp : c = (l.takeWhile (befB ⟨⟨xa, ⟨xs, xt, xm, xy, xp⟩⟩, XB, xc⟩)).length
    · exact rins_end bA oA l n c xa xs xt xm xy XB xp xc w hn hl hcap hcm hA (Nat.le_of_eq hcp)
    · exact rins_some bA oA l n c xa xs xt xm xy XB xp xc w hn hl hcap hcm hA hcp
end Go.Proofs.Ytnaafjdnmbajjaa

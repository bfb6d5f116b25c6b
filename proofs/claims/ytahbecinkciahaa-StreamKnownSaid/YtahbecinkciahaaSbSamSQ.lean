/- Layer 32: sounds that are the same. -/
import Derived.Test.YtahbecinkciahaaJtPlainQ
import Derived.Test.YtahbecinkciahaaDelUnpackQ
import Derived.Test.YtahbecinkciahaaJtCopyQ
import Derived.Test.YtahbecinkciahaaJtPutG1Q
namespace Go.Proofs.Ytahbecinkciahaa
open Go.RowKit
set_option linter.unusedVariables false
set_option linter.unusedSimpArgs false
attribute [local go_sem ↓] run_min_plain run_max_plain
attribute [local go_sem] setCell_drewN alloc_drewN
set_option maxRecDepth 100000 in
set_option maxHeartbeats 12800000 in
theorem same29n (w : World) : Calls Try.prog 47 #[.slice none 0 0, .slice none 0 0] w fun e w' => e = .returned (.bool true) ∧ Below w.heap.size w w' := by
  go_enter Try.func47, Try.ntmps47
  go_wp2
  go_loopw [5] (fun i wr => i = .int .i64 0 ∧ Below w.heap.size w wr) (fun i _ => 0)
  case atStart => exact ⟨rfl, Below.refl _ _⟩
  case round =>
    obtain ⟨rfl, hb⟩ := hrel
    go_wp2
    go_ret
    exact ⟨rfl, hb⟩
theorem TS.same {l1 l2 : List TS} (h : l1.map TS.s = l2.map TS.s) {k : Nat} {a b : TS} (ha : l1[k]? = some a) (hb : l2[k]? = some b) : a.s = b.s := by
  have h1 := congrArg (fun l => l[k]?) h
  simp only [List.getElem?_map, ha, hb, Option.map] at h1
  injection h1
set_option maxRecDepth 100000 in
set_option maxHeartbeats 12800000 in
theorem sameSounds (A B : Option Addr) (l1 l2 : List TS) (n c d : Nat) (hn : l1.length = n) (h9 : n ≤ 100000) (h : l1.map TS.s = l2.map TS.s) (hz : ∀ a ∈ l1, a.s.zs.length ≤ 140737488355328) (w : World) (hA : Sds w w.heap.size A l1) (hB : Sds w w.heap.size B l2) : Calls Try.prog 26 #[.slice A n c, .slice B n d] w fun e w' => e = .returned (.bool true) ∧ Below w.heap.size w w' := by
  have hn2 : l2.length = n := by have := congrArg List.length h; simp at this; omega
  have HH := Lib.hid h
  have HA := Lib.hid hA
  have HB := Lib.hid hB
  have HZ := Lib.hid hz
  clear h hA hB hz
  go_enter Try.func26, Try.ntmps26
  go_wp2
  go_loopg [5] n (fun gk i wr => ∃ k : Nat, gk + k = n ∧ i = .int .i64 k ∧ Hid (Below w.heap.size w wr))
  case atStart => exact ⟨0, rfl, rfl, Lib.hid (Below.refl _ _)⟩
  case round =>
    obtain ⟨k, hgk, rfl, U⟩ := hrel
    have hi0 : (0 : Int) ≤ (k : Int) := by omega
    by_cases hk : k < n
    rotate_left
    · obtain rfl : k = n := by omega
      have hi1 : (k : Int) ≤ (k : Int) := Int.le_refl _
      go_wp2
      go_ret
      exact ⟨rfl, U.out⟩
    have hi1 : (k : Int) < (n : Int) := by omega
    obtain ⟨a, ha⟩ : ∃ a, l1[k]? = some a := ⟨_, List.getElem?_eq_getElem (by omega)⟩
    obtain ⟨b, hb⟩ : ∃ b, l2[k]? = some b := ⟨_, List.getElem?_eq_getElem (by omega)⟩
    have hab := TS.same HH.out ha hb
    have hza := HZ.out a (List.mem_of_getElem? ha)
    obtain ⟨b1, o1, rfl, hb1, x0, x1, x2⟩ := rowsSd (HA.out.1.keep (fun p hp => U.out.cell hp)) ha
    obtain ⟨b2, o2, rfl, hb2, y0, y1, y2⟩ := rowsSd (HB.out.1.keep (fun p hp => U.out.cell hp)) hb
    have IA := Lib.hid (((HA.out.2 a (List.mem_of_getElem? ha)).keep (w' := wr) (fun p hp => U.out.cell hp)).more U.out.size)
    have IB := Lib.hid (((HB.out.2 b (List.mem_of_getElem? hb)).keep (w' := wr) (fun p hp => U.out.cell hp)).more U.out.size)
    obtain ⟨⟨at1, z1, k1⟩, S1, c1⟩ := a
    obtain ⟨⟨at2, z2, k2⟩, S2, c2⟩ := b
    injection hab with e1 e2 e3
    subst e1 e2 e3
    simp only at x0 x1 x2 y0 y1 y2 IA IB hza
    have k1 := Lib.hid fun (W : World) hA hB => sameInts S1 S2 z1 z1.length c1 c2 rfl W hA hB hza
    have k2 := Lib.hid fun W => same29n W
    clear ha hb hza hb1 hb2
    go_upto_region 6 with fail
    go_cut [55] (fun s55 wx => s55 = .bool false ∧ Hid (Below wr.heap.size wr wx))
    case first =>
      go_region_held3 (fun w' => Below wr.heap.size wr w' ∧ w'.cell? ⟨b1, o1 + k * 3, none⟩ = some (.int .i64 at1) ∧ w'.cell? ⟨b1, o1 + k * 3 + 1, none⟩ = some (.slice S1 z1.length c1) ∧ w'.cell? ⟨b1, o1 + k * 3 + 2, none⟩ = some (.slice none 0 0) ∧ w'.cell? ⟨b2, o2 + k * 3, none⟩ = some (.int .i64 at1) ∧ w'.cell? ⟨b2, o2 + k * 3 + 1, none⟩ = some (.slice S2 z1.length c2) ∧ w'.cell? ⟨b2, o2 + k * 3 + 2, none⟩ = some (.slice none 0 0))
        (first | assumption | ((try go_split_ands); refine and_dep ?_ (fun hbX => ⟨cell_old hbX x0, cell_old hbX x1, cell_old hbX x2, cell_old hbX y0, cell_old hbX y1, cell_old hbX y2⟩); (with_reducible repeat first | assumption | exact Below.refl _ _ | exact below_old' (by assumption) (by assumption) | refine Below.drew ?_ | refine below_new_old ?_ _)))
        (first
          | (go_at_call 46; refine (k1.out _ (IA.out.later (by (try go_split_ands); first | assumption | exact Below.drew (Below.refl _ _))) (IB.out.later (by (try go_split_ands); first | assumption | exact Below.drew (Below.refl _ _)))).mono ?_; rintro e w7 ⟨rfl, hbel⟩; have hbw : Below wr.heap.size wr w7 := below_old' hbel (by (try go_split_ands); first | assumption | exact Below.drew (Below.refl _ _)))
          | (go_at_call 47; refine (k2.out _).mono ?_; rintro e w8 ⟨rfl, hbel2⟩; have hbw2 : Below wr.heap.size wr w8 := below_old' hbel2 (by (try go_split_ands); assumption)))
      all_goals
        go_wp2_with fail
        go_meet
        exact ⟨rfl, Lib.hid hbw2⟩
    case rest =>
      obtain ⟨rfl, HW⟩ := hcut
      have U2 := Lib.hid (Bel.later (w := w) U.out HW.out)
      clear x0 x1 x2 y0 y1 y2 IA IB k1 k2
      go_wp2
      go_roundg (gk - 1)
      case measure => omega
      case rel => exact ⟨k + 1, by omega, by go_num, U2⟩
end Go.Proofs.Ytahbecinkciahaa
/- Layer 32: Send, the region that encodes (mu). -/
namespace Go.Proofs.Ytahbecinkciahaa
open Go.RowKit
set_option linter.unusedVariables false
set_option linter.unusedSimpArgs false
attribute [local go_sem ↓] run_min_plain run_max_plain
attribute [local go_sem] setCell_drewN alloc_drewN
noncomputable def sr8mu_code : Code := ((Try.f10.body.bind (findRegS 8)).getD .skip)
set_option maxRecDepth 100000 in
set_option maxHeartbeats 12800000 in
theorem sr8mu_wp {s0 s3 s4 s5 s6 s7 s8 s9 s10 s11 s12 s13 s14 s15 s16 s17 s18 s19 s20 s21 s22 s23 s24 s25 s26 s27 s28 s29 s30 s31 s32 s33 s34 s35 s36 s37 s38 s39 s40 s41 s42 s43 s44 s45 s46 s47 s48 s49 s50 s51 s52 s53 s54 s55 s56 s57 s58 s59 s60 s61 s62 s63 s64 s65 s66 s67 s68 s69 s70 s71 s72 s73 s74 s75 s76 s77 s78 s79 s80 s81 s82 s83 s84 s85 s86 s87 s88 s89 s90 s91 s92 s93 s94 s95 s96 s97 s98 s99 s100 s101 s102 s103 s104 s105 s106 s107 s108 s109 s110 s111 s112 s113 s114 s115 s116 s117 s118 s119 s120 s121 s122 s123 s124 s125 s126 s127 s128 s129 s130 s131 s132 s133 s134 s135 s136 s137 s138 : Value} {Q : Exit → Act → World → Prop} (N : Nat) (v i : Int) (ZA : Option Addr) (zs : List Int) (zc : Nat) (W : World) (x0 : W.cell? ⟨N, 0, none⟩ = some (.int .u8 0)) (x6 : W.cell? ⟨N, 6, none⟩ = some (.int .i64 v)) (x7 : W.cell? ⟨N, 7, none⟩ = some (.int .i64 i)) (hZ : IntsAt W W.heap.size .i16 ZA zs) (hz : Within (-32768) 32767 zs) (hzl : zs.length = 160) (hQp : ∀ (ch : _) (a : Act) (d : Tmp) (u : Value) (w : World), Q (.panic ch) (a.put (some d) u) w → Q (.panic ch) a w)
    (h : ∀ (wx : World) (A8 : Option Addr) (c8 g8 : Nat) (u43 u44 u45 u46 u47 u48 u49 u50 u51 u52 u53 u54 u55 : Value), Hid (IntsNew W.heap.size wx .u8 A8 (zs.map Cmp.muZ)) → Hid (Blk wx g8 28 #[.int .i64 v, .int .i64 i]) → Hid (W.heap.size ≤ g8) → Hid (Below W.heap.size W wx) → Q .normal ⟨#[s0, .slice ZA 160 zc, .pointer (some ⟨N, 0, none⟩), s3, s4, s5, s6, s7, s8, s9, s10, s11, s12, s13, s14, s15, s16, .slice A8 160 c8, .pointer (some ⟨g8, 0, none⟩), .int .u8 0, s20, s21, s22, s23, s24, s25, s26, s27, s28, s29, s30, s31, s32, s33, s34, s35, s36, s37, s38, s39, s40, s41, s42, u43, u44, u45, u46, u47, u48, u49, u50, u51, u52, u53, u54, u55, s56, s57, s58, s59, s60, s61, s62, s63, s64, s65, s66, s67, s68, s69, s70, s71, s72, s73, s74, s75, s76, s77, s78, s79, s80, s81, s82, s83, s84, s85, s86, s87, s88, s89, s90, s91, s92, s93, s94, s95, s96, s97, s98, s99, s100, s101, s102, s103, s104, s105, s106, s107, s108, s109, s110, s111, s112, s113, s114, s115, s116, s117, s118, s119, s120, s121, s122, s123, s124, s125, s126, s127, s128, s129, s130, s131, s132, s133, s134, s135, s136, s137, s138], []⟩ wx) : sr8mu_code.wp Try.prog Q ⟨#[s0, .slice ZA 160 zc, .pointer (some ⟨N, 0, none⟩), s3, s4, s5, s6, s7, s8, s9, s10, s11, s12, s13, s14, s15, s16, s17, s18, s19, s20, s21, s22, s23, s24, s25, s26, s27, s28, s29, s30, s31, s32, s33, s34, s35, s36, s37, s38, s39, s40, s41, s42, s43, s44, s45, s46, s47, s48, s49, s50, s51, s52, s53, s54, s55, s56, s57, s58, s59, s60, s61, s62, s63, s64, s65, s66, s67, s68, s69, s70, s71, s72, s73, s74, s75, s76, s77, s78, s79, s80, s81, s82, s83, s84, s85, s86, s87, s88, s89, s90, s91, s92, s93, s94, s95, s96, s97, s98, s99, s100, s101, s102, s103, s104, s105, s106, s107, s108, s109, s110, s111, s112, s113, s114, s115, s116, s117, s118, s119, s120, s121, s122, s123, s124, s125, s126, s127, s128, s129, s130, s131, s132, s133, s134, s135, s136, s137, s138], []⟩ W := by
  have k5 := Lib.hid fun (b : Nat) (V : World) hW hB => enc_mu v i ZA zs zc b V hW hz (by omega) hB
  unfold EncR at k5
  have hml : (zs.map Cmp.muZ).length = 160 := by rw [List.length_map, hzl]
  rw [hzl, hml] at k5
  have HZ := Lib.hid hZ
  have hq := Lib.hid h
  clear hZ hz hzl hml h
  conv => arg 2; whnf
  refine wp_region_held_drew (S := fun w' => Below W.heap.size W w') (by kernel_rfl) (Below.drew (Below.refl _ _)) (fun hHeld => ?_)
  refine tk1 (i := 1) (v := ?_) rfl (Or.inl ⟨by rfl, ?_⟩) hHeld ?_ (hQ := fun _ _ _ h => hQp _ _ _ _ _ h)
  rotate_left
  · (intro w hSw; clear hSw; go_simp; try with_reducible rfl)
  try simp only [List.getElem_toArray, List.getElem_cons_zero, List.getElem_cons_succ, Act.put, List.setIfInBounds_toArray, List.set_cons_zero, List.set_cons_succ]
  refine tk1 (i := 2) (v := ?_) rfl (Or.inl ⟨by rfl, ?_⟩) hHeld ?_ (hQ := fun _ _ _ h => hQp _ _ _ _ _ h)
  rotate_left
  · (intro w hSw; have c0 := cell_old hSw x0; clear hSw; go_simp; try with_reducible rfl)
  try simp only [List.getElem_toArray, List.getElem_cons_zero, List.getElem_cons_succ, Act.put, List.setIfInBounds_toArray, List.set_cons_zero, List.set_cons_succ]
  refine tk1 (i := 5) (v := ?_) rfl (Or.inl ⟨by rfl, ?_⟩) hHeld ?_ (hQ := fun _ _ _ h => hQp _ _ _ _ _ h)
  rotate_left
  · (intro w hSw; clear hSw; go_simp; try with_reducible rfl)
  try simp only [List.getElem_toArray, List.getElem_cons_zero, List.getElem_cons_succ, Act.put, List.setIfInBounds_toArray, List.set_cons_zero, List.set_cons_succ]
  refine tk1 (i := 6) (v := ?_) rfl (Or.inl ⟨by rfl, ?_⟩) hHeld ?_ (hQ := fun _ _ _ h => hQp _ _ _ _ _ h)
  rotate_left
  · (intro w hSw; have c6 := cell_old hSw x6; have c7 := cell_old hSw x7; clear hSw; go_simp; try with_reducible rfl)
  try simp only [List.getElem_toArray, List.getElem_cons_zero, List.getElem_cons_succ, Act.put, List.setIfInBounds_toArray, List.set_cons_zero, List.set_cons_succ]
  refine tk1 (i := 7) (v := ?_) rfl (Or.inl ⟨by rfl, ?_⟩) hHeld ?_ (hQ := fun _ _ _ h => hQp _ _ _ _ _ h)
  rotate_left
  · (intro w hSw; clear hSw; go_simp; try with_reducible rfl)
  try simp only [List.getElem_toArray, List.getElem_cons_zero, List.getElem_cons_succ, Act.put, List.setIfInBounds_toArray, List.set_cons_zero, List.set_cons_succ]
  refine wpAnyH_ready (rs := [0, 13]) (by kernel_rfl) (by simp) ?_
  refine AllReadyH.cons (o := _) rfl (fun K hK => ?_) (AllReadyH.cons (o := _) rfl (fun K hK => ?_) AllReadyH.nil)
  · go_simp
    refine (codecs_any _).mono ?_
    rintro e w7 ⟨b, b1, b2, rfl, C, hb1⟩
    have HC := Lib.hid C
    refine hK.out _ _ ?_ (fun hHeld => ?_)
    · exact below_old' hb1 hHeld
    clear hK K C hb1
    try simp only [List.getElem_toArray, List.getElem_cons_zero, List.getElem_cons_succ, Act.put, List.setIfInBounds_toArray, List.set_cons_zero, List.set_cons_succ]
    refine wpAnyH_ready (rs := [3, 13]) (by kernel_rfl) (by simp) ?_
    refine AllReadyH.cons (o := _) rfl (fun K hK => ?_) (AllReadyH.cons (o := _) rfl (fun K hK => ?_) AllReadyH.nil)
    · have kl := (look_codec HC.out 0 (by omega) (by omega)).1
      rw [show cAt b1 b2 0 = cLaw b1 from rfl] at kl
      simp only [cLaw] at kl
      go_simp
      refine hK.out _ _ ?_ (fun hHeld => ?_)
      · exact hHeld
      clear hK K kl
      try simp only [List.getElem_toArray, List.getElem_cons_zero, List.getElem_cons_succ, Act.put, List.setIfInBounds_toArray, List.set_cons_zero, List.set_cons_succ]
      have hfl := field_codec
      refine tk1 (i := 4) (v := ?_) rfl (Or.inl ⟨by rfl, ?_⟩) hHeld ?_ (hQ := fun _ _ _ h => hQp _ _ _ _ _ h)
      rotate_left
      · (intro w hSw; clear hSw; go_simp; try with_reducible rfl)
      try simp only [List.getElem_toArray, List.getElem_cons_zero, List.getElem_cons_succ, Act.put, List.setIfInBounds_toArray, List.set_cons_zero, List.set_cons_succ]
      clear hfl
      refine wpAnyH_ready (rs := [8, 13]) (by kernel_rfl) (by simp) ?_
      refine AllReadyH.cons (o := _) rfl (fun K hK => ?_) (AllReadyH.cons (o := _) rfl (fun K hK => ?_) AllReadyH.nil)
      · go_simp
        refine (k5.out b1 _ (HZ.out.later hHeld) HC.out.l1).mono ?_
        rintro e w9 ⟨A8, c8, rfl, hI9, hb2⟩
        have HI := Lib.hid (hI9.less hHeld.size)
        refine hK.out _ _ ?_ (fun hHeld => ?_)
        · exact below_old' hb2 hHeld
        clear hK K HC hI9 hb2
        try simp only [List.getElem_toArray, List.getElem_cons_zero, List.getElem_cons_succ, Act.put, List.setIfInBounds_toArray, List.set_cons_zero, List.set_cons_succ]
        refine tk1 (i := 9) (v := ?_) rfl (Or.inl ⟨by rfl, ?_⟩) hHeld ?_ (hQ := fun _ _ _ h => hQp _ _ _ _ _ h)
        rotate_left
        · (intro w hSw; clear hSw; go_simp; try with_reducible rfl)
        try simp only [List.getElem_toArray, List.getElem_cons_zero, List.getElem_cons_succ, Act.put, List.setIfInBounds_toArray, List.set_cons_zero, List.set_cons_succ]
        refine tk1 (i := 10) (v := ?_) rfl (Or.inl ⟨by rfl, ?_⟩) hHeld ?_ (hQ := fun _ _ _ h => hQp _ _ _ _ _ h)
        rotate_left
        · (intro w hSw; clear hSw; go_simp; try with_reducible rfl)
        try simp only [List.getElem_toArray, List.getElem_cons_zero, List.getElem_cons_succ, Act.put, List.setIfInBounds_toArray, List.set_cons_zero, List.set_cons_succ]
        refine tk1 (i := 11) (v := ?_) rfl (Or.inl ⟨by rfl, ?_⟩) hHeld ?_ (hQ := fun _ _ _ h => hQp _ _ _ _ _ h)
        rotate_left
        · (intro w hSw; clear hSw; go_simp; try with_reducible rfl)
        try simp only [List.getElem_toArray, List.getElem_cons_zero, List.getElem_cons_succ, Act.put, List.setIfInBounds_toArray, List.set_cons_zero, List.set_cons_succ]
        refine tk1 (i := 12) (v := ?_) rfl (Or.inl ⟨by rfl, ?_⟩) hHeld ?_ (hQ := fun _ _ _ h => hQp _ _ _ _ _ h)
        rotate_left
        · (intro w hSw; clear hSw; go_simp; try with_reducible rfl)
        try simp only [List.getElem_toArray, List.getElem_cons_zero, List.getElem_cons_succ, Act.put, List.setIfInBounds_toArray, List.set_cons_zero, List.set_cons_succ]
        refine wpAnyH_ready (rs := [13]) (by kernel_rfl) (by simp) ?_
        refine AllReadyH.cons (o := _) rfl (fun K hK => ?_) AllReadyH.nil
        · go_simp
          have HD := Lib.hid (Blk.new (w9) 28 #[.int .i64 0, .int .i64 0])
          have hg8 : W.heap.size ≤ (w9).heap.size := hHeld.size
          obtain ⟨g8, hgg⟩ : ∃ g, g = (w9).heap.size := ⟨_, rfl⟩
          replace HI := Lib.hid (HI.out.push (Obj.cells #[.int .i64 0, .int .i64 0] 28))
          refine hK.out _ _ ?_ (fun hHeld => ?_)
          · exact below_new_old hHeld _
          clear hK K
          try simp only [List.getElem_toArray, List.getElem_cons_zero, List.getElem_cons_succ, Act.put, List.setIfInBounds_toArray, List.set_cons_zero, List.set_cons_succ]
          obtain ⟨V4, hV⟩ : ∃ V, V = (w9).alloc (Obj.cells #[.int .i64 0, .int .i64 0] 28) := ⟨_, rfl⟩
          rw [← hV] at HD hHeld HI ⊢
          rw [← hgg] at HD hg8 ⊢
          clear hgg
          clear hV
          refine tk1 (i := 14) (v := ?_) rfl (Or.inl ⟨by rfl, ?_⟩) hHeld ?_ (hQ := fun _ _ _ h => hQp _ _ _ _ _ h)
          rotate_left
          · (intro w hSw; clear hSw; go_simp; try with_reducible rfl)
          try simp only [List.getElem_toArray, List.getElem_cons_zero, List.getElem_cons_succ, Act.put, List.setIfInBounds_toArray, List.set_cons_zero, List.set_cons_succ]
          have y0 := HD.out.at 0 _ rfl
          have y1 := HD.out.at 1 _ rfl
          have yz := HD.out.frozen
          refine wpAnyH_ready (rs := [15]) (by kernel_rfl) (by simp) ?_
          refine AllReadyH.cons (o := _) rfl (fun K hK => ?_) AllReadyH.nil
          go_simp
          refine hK.out _ _ ?_ (fun hHeld => ?_)
          · exact below_set_old (below_set_old hHeld hg8 _) hg8 _
          clear hK K
          try simp only [List.getElem_toArray, List.getElem_cons_zero, List.getElem_cons_succ, Act.put, List.setIfInBounds_toArray, List.set_cons_zero, List.set_cons_succ]
          refine tk1 (i := 16) (v := ?_) rfl (Or.inl ⟨by rfl, ?_⟩) hHeld ?_ (hQ := fun _ _ _ h => hQp _ _ _ _ _ h)
          rotate_left
          · (intro w hSw; clear hSw; go_simp; try with_reducible rfl)
          try simp only [List.getElem_toArray, List.getElem_cons_zero, List.getElem_cons_succ, Act.put, List.setIfInBounds_toArray, List.set_cons_zero, List.set_cons_succ]
          refine wpAnyH_done (by kernel_rfl) ?_ _
          have z1 := (HD.out.set_ 0 (.int .i64 v)).at 1 _ rfl
          exact hq.out _ A8 c8 _ _ _ _ _ _ _ _ _ _ _ _ _ _ (Lib.hid ⟨((HI.out.1.set_ne y0 (by intro z e; cases e) _).set_ne z1 (by intro z e; cases e) _).more (by simp [World.setCell]), HI.out.2⟩) (Lib.hid ((HD.out.set_ 0 _).set_ 1 _)) (Lib.hid hg8) (Lib.hid hHeld)
      · go_simp
        have HD := Lib.hid (Blk.new (w7) 28 #[.int .i64 0, .int .i64 0])
        have hg8 : W.heap.size ≤ (w7).heap.size := hHeld.size
        obtain ⟨g8, hgg⟩ : ∃ g, g = (w7).heap.size := ⟨_, rfl⟩
        replace HC := Lib.hid (HC.out.later ((Below.refl _ _).alloc (Nat.le_refl _) (Obj.cells #[.int .i64 0, .int .i64 0] 28)))
        refine hK.out _ _ ?_ (fun hHeld => ?_)
        · exact below_new_old hHeld _
        clear hK K
        try simp only [List.getElem_toArray, List.getElem_cons_zero, List.getElem_cons_succ, Act.put, List.setIfInBounds_toArray, List.set_cons_zero, List.set_cons_succ]
        obtain ⟨V5, hV⟩ : ∃ V, V = (w7).alloc (Obj.cells #[.int .i64 0, .int .i64 0] 28) := ⟨_, rfl⟩
        rw [← hV] at HD hHeld HC ⊢
        rw [← hgg] at HD hg8 ⊢
        clear hgg
        clear hV
        refine wpAnyH_ready (rs := [8]) (by kernel_rfl) (by simp) ?_
        refine AllReadyH.cons (o := _) rfl (fun K hK => ?_) AllReadyH.nil
        · go_simp
          refine (k5.out b1 _ (HZ.out.later hHeld) HC.out.l1).mono ?_
          rintro e w9 ⟨A8, c8, rfl, hI9, hb2⟩
          have HI := Lib.hid (hI9.less hHeld.size)
          replace HD := Lib.hid (HD.out.later hb2)
          refine hK.out _ _ ?_ (fun hHeld => ?_)
          · exact below_old' hb2 hHeld
          clear hK K HC hI9 hb2
          try simp only [List.getElem_toArray, List.getElem_cons_zero, List.getElem_cons_succ, Act.put, List.setIfInBounds_toArray, List.set_cons_zero, List.set_cons_succ]
          refine tk1 (i := 9) (v := ?_) rfl (Or.inl ⟨by rfl, ?_⟩) hHeld ?_ (hQ := fun _ _ _ h => hQp _ _ _ _ _ h)
          rotate_left
          · (intro w hSw; clear hSw; go_simp; try with_reducible rfl)
          try simp only [List.getElem_toArray, List.getElem_cons_zero, List.getElem_cons_succ, Act.put, List.setIfInBounds_toArray, List.set_cons_zero, List.set_cons_succ]
          refine tk1 (i := 10) (v := ?_) rfl (Or.inl ⟨by rfl, ?_⟩) hHeld ?_ (hQ := fun _ _ _ h => hQp _ _ _ _ _ h)
          rotate_left
          · (intro w hSw; clear hSw; go_simp; try with_reducible rfl)
          try simp only [List.getElem_toArray, List.getElem_cons_zero, List.getElem_cons_succ, Act.put, List.setIfInBounds_toArray, List.set_cons_zero, List.set_cons_succ]
          refine tk1 (i := 11) (v := ?_) rfl (Or.inl ⟨by rfl, ?_⟩) hHeld ?_ (hQ := fun _ _ _ h => hQp _ _ _ _ _ h)
          rotate_left
          · (intro w hSw; clear hSw; go_simp; try with_reducible rfl)
          try simp only [List.getElem_toArray, List.getElem_cons_zero, List.getElem_cons_succ, Act.put, List.setIfInBounds_toArray, List.set_cons_zero, List.set_cons_succ]
          refine tk1 (i := 12) (v := ?_) rfl (Or.inl ⟨by rfl, ?_⟩) hHeld ?_ (hQ := fun _ _ _ h => hQp _ _ _ _ _ h)
          rotate_left
          · (intro w hSw; clear hSw; go_simp; try with_reducible rfl)
          try simp only [List.getElem_toArray, List.getElem_cons_zero, List.getElem_cons_succ, Act.put, List.setIfInBounds_toArray, List.set_cons_zero, List.set_cons_succ]
          refine tk1 (i := 14) (v := ?_) rfl (Or.inl ⟨by rfl, ?_⟩) hHeld ?_ (hQ := fun _ _ _ h => hQp _ _ _ _ _ h)
          rotate_left
          · (intro w hSw; clear hSw; go_simp; try with_reducible rfl)
          try simp only [List.getElem_toArray, List.getElem_cons_zero, List.getElem_cons_succ, Act.put, List.setIfInBounds_toArray, List.set_cons_zero, List.set_cons_succ]
          have y0 := HD.out.at 0 _ rfl
          have y1 := HD.out.at 1 _ rfl
          have yz := HD.out.frozen
          refine wpAnyH_ready (rs := [15]) (by kernel_rfl) (by simp) ?_
          refine AllReadyH.cons (o := _) rfl (fun K hK => ?_) AllReadyH.nil
          go_simp
          refine hK.out _ _ ?_ (fun hHeld => ?_)
          · exact below_set_old (below_set_old hHeld hg8 _) hg8 _
          clear hK K
          try simp only [List.getElem_toArray, List.getElem_cons_zero, List.getElem_cons_succ, Act.put, List.setIfInBounds_toArray, List.set_cons_zero, List.set_cons_succ]
          refine tk1 (i := 16) (v := ?_) rfl (Or.inl ⟨by rfl, ?_⟩) hHeld ?_ (hQ := fun _ _ _ h => hQp _ _ _ _ _ h)
          rotate_left
          · (intro w hSw; clear hSw; go_simp; try with_reducible rfl)
          try simp only [List.getElem_toArray, List.getElem_cons_zero, List.getElem_cons_succ, Act.put, List.setIfInBounds_toArray, List.set_cons_zero, List.set_cons_succ]
          refine wpAnyH_done (by kernel_rfl) ?_ _
          have z1 := (HD.out.set_ 0 (.int .i64 v)).at 1 _ rfl
          exact hq.out _ A8 c8 _ _ _ _ _ _ _ _ _ _ _ _ _ _ (Lib.hid ⟨((HI.out.1.set_ne y0 (by intro z e; cases e) _).set_ne z1 (by intro z e; cases e) _).more (by simp [World.setCell]), HI.out.2⟩) (Lib.hid ((HD.out.set_ 0 _).set_ 1 _)) (Lib.hid hg8) (Lib.hid hHeld)
    · go_simp
      have HD := Lib.hid (Blk.new (w7) 28 #[.int .i64 0, .int .i64 0])
      have hg8 : W.heap.size ≤ (w7).heap.size := hHeld.size
      obtain ⟨g8, hgg⟩ : ∃ g, g = (w7).heap.size := ⟨_, rfl⟩
      replace HC := Lib.hid (HC.out.later ((Below.refl _ _).alloc (Nat.le_refl _) (Obj.cells #[.int .i64 0, .int .i64 0] 28)))
      refine hK.out _ _ ?_ (fun hHeld => ?_)
      · exact below_new_old hHeld _
      clear hK K
      try simp only [List.getElem_toArray, List.getElem_cons_zero, List.getElem_cons_succ, Act.put, List.setIfInBounds_toArray, List.set_cons_zero, List.set_cons_succ]
      obtain ⟨V7, hV⟩ : ∃ V, V = (w7).alloc (Obj.cells #[.int .i64 0, .int .i64 0] 28) := ⟨_, rfl⟩
      rw [← hV] at HD hHeld HC ⊢
      rw [← hgg] at HD hg8 ⊢
      clear hgg
      clear hV
      refine wpAnyH_ready (rs := [3]) (by kernel_rfl) (by simp) ?_
      refine AllReadyH.cons (o := _) rfl (fun K hK => ?_) AllReadyH.nil
      · have kl := (look_codec HC.out 0 (by omega) (by omega)).1
        rw [show cAt b1 b2 0 = cLaw b1 from rfl] at kl
        simp only [cLaw] at kl
        go_simp
        refine hK.out _ _ ?_ (fun hHeld => ?_)
        · exact hHeld
        clear hK K kl
        try simp only [List.getElem_toArray, List.getElem_cons_zero, List.getElem_cons_succ, Act.put, List.setIfInBounds_toArray, List.set_cons_zero, List.set_cons_succ]
        have hfl := field_codec
        refine tk1 (i := 4) (v := ?_) rfl (Or.inl ⟨by rfl, ?_⟩) hHeld ?_ (hQ := fun _ _ _ h => hQp _ _ _ _ _ h)
        rotate_left
        · (intro w hSw; clear hSw; go_simp; try with_reducible rfl)
        try simp only [List.getElem_toArray, List.getElem_cons_zero, List.getElem_cons_succ, Act.put, List.setIfInBounds_toArray, List.set_cons_zero, List.set_cons_succ]
        clear hfl
        refine wpAnyH_ready (rs := [8]) (by kernel_rfl) (by simp) ?_
        refine AllReadyH.cons (o := _) rfl (fun K hK => ?_) AllReadyH.nil
        · go_simp
          refine (k5.out b1 _ (HZ.out.later hHeld) HC.out.l1).mono ?_
          rintro e w9 ⟨A8, c8, rfl, hI9, hb2⟩
          have HI := Lib.hid (hI9.less hHeld.size)
          replace HD := Lib.hid (HD.out.later hb2)
          refine hK.out _ _ ?_ (fun hHeld => ?_)
          · exact below_old' hb2 hHeld
          clear hK K HC hI9 hb2
          try simp only [List.getElem_toArray, List.getElem_cons_zero, List.getElem_cons_succ, Act.put, List.setIfInBounds_toArray, List.set_cons_zero, List.set_cons_succ]
          refine tk1 (i := 9) (v := ?_) rfl (Or.inl ⟨by rfl, ?_⟩) hHeld ?_ (hQ := fun _ _ _ h => hQp _ _ _ _ _ h)
          rotate_left
          · (intro w hSw; clear hSw; go_simp; try with_reducible rfl)
          try simp only [List.getElem_toArray, List.getElem_cons_zero, List.getElem_cons_succ, Act.put, List.setIfInBounds_toArray, List.set_cons_zero, List.set_cons_succ]
          refine tk1 (i := 10) (v := ?_) rfl (Or.inl ⟨by rfl, ?_⟩) hHeld ?_ (hQ := fun _ _ _ h => hQp _ _ _ _ _ h)
          rotate_left
          · (intro w hSw; clear hSw; go_simp; try with_reducible rfl)
          try simp only [List.getElem_toArray, List.getElem_cons_zero, List.getElem_cons_succ, Act.put, List.setIfInBounds_toArray, List.set_cons_zero, List.set_cons_succ]
          refine tk1 (i := 11) (v := ?_) rfl (Or.inl ⟨by rfl, ?_⟩) hHeld ?_ (hQ := fun _ _ _ h => hQp _ _ _ _ _ h)
          rotate_left
          · (intro w hSw; clear hSw; go_simp; try with_reducible rfl)
          try simp only [List.getElem_toArray, List.getElem_cons_zero, List.getElem_cons_succ, Act.put, List.setIfInBounds_toArray, List.set_cons_zero, List.set_cons_succ]
          refine tk1 (i := 12) (v := ?_) rfl (Or.inl ⟨by rfl, ?_⟩) hHeld ?_ (hQ := fun _ _ _ h => hQp _ _ _ _ _ h)
          rotate_left
          · (intro w hSw; clear hSw; go_simp; try with_reducible rfl)
          try simp only [List.getElem_toArray, List.getElem_cons_zero, List.getElem_cons_succ, Act.put, List.setIfInBounds_toArray, List.set_cons_zero, List.set_cons_succ]
          refine tk1 (i := 14) (v := ?_) rfl (Or.inl ⟨by rfl, ?_⟩) hHeld ?_ (hQ := fun _ _ _ h => hQp _ _ _ _ _ h)
          rotate_left
          · (intro w hSw; clear hSw; go_simp; try with_reducible rfl)
          try simp only [List.getElem_toArray, List.getElem_cons_zero, List.getElem_cons_succ, Act.put, List.setIfInBounds_toArray, List.set_cons_zero, List.set_cons_succ]
          have y0 := HD.out.at 0 _ rfl
          have y1 := HD.out.at 1 _ rfl
          have yz := HD.out.frozen
          refine wpAnyH_ready (rs := [15]) (by kernel_rfl) (by simp) ?_
          refine AllReadyH.cons (o := _) rfl (fun K hK => ?_) AllReadyH.nil
          go_simp
          refine hK.out _ _ ?_ (fun hHeld => ?_)
          · exact below_set_old (below_set_old hHeld hg8 _) hg8 _
          clear hK K
          try simp only [List.getElem_toArray, List.getElem_cons_zero, List.getElem_cons_succ, Act.put, List.setIfInBounds_toArray, List.set_cons_zero, List.set_cons_succ]
          refine tk1 (i := 16) (v := ?_) rfl (Or.inl ⟨by rfl, ?_⟩) hHeld ?_ (hQ := fun _ _ _ h => hQp _ _ _ _ _ h)
          rotate_left
          · (intro w hSw; clear hSw; go_simp; try with_reducible rfl)
          try simp only [List.getElem_toArray, List.getElem_cons_zero, List.getElem_cons_succ, Act.put, List.setIfInBounds_toArray, List.set_cons_zero, List.set_cons_succ]
          refine wpAnyH_done (by kernel_rfl) ?_ _
          have z1 := (HD.out.set_ 0 (.int .i64 v)).at 1 _ rfl
          exact hq.out _ A8 c8 _ _ _ _ _ _ _ _ _ _ _ _ _ _ (Lib.hid ⟨((HI.out.1.set_ne y0 (by intro z e; cases e) _).set_ne z1 (by intro z e; cases e) _).more (by simp [World.setCell]), HI.out.2⟩) (Lib.hid ((HD.out.set_ 0 _).set_ 1 _)) (Lib.hid hg8) (Lib.hid hHeld)
  · go_simp
    have HD := Lib.hid (Blk.new (W) 28 #[.int .i64 0, .int .i64 0])
    have hg8 : W.heap.size ≤ (W).heap.size := hHeld.size
    obtain ⟨g8, hgg⟩ : ∃ g, g = (W).heap.size := ⟨_, rfl⟩
    replace HD := Lib.hid (Blk.dr HD.out)
    refine hK.out _ _ ?_ (fun hHeld => ?_)
    · exact Below.drew (below_new_old (Below.refl _ _) _)
    clear hK K
    try simp only [List.getElem_toArray, List.getElem_cons_zero, List.getElem_cons_succ, Act.put, List.setIfInBounds_toArray, List.set_cons_zero, List.set_cons_succ]
    obtain ⟨V10, hV⟩ : ∃ V, V = (W.alloc (Obj.cells #[.int .i64 0, .int .i64 0] 28)).drew := ⟨_, rfl⟩
    rw [← hV] at HD hHeld ⊢
    subst hgg
    clear hV
    refine wpAnyH_ready (rs := [0]) (by kernel_rfl) (by simp) ?_
    refine AllReadyH.cons (o := _) rfl (fun K hK => ?_) AllReadyH.nil
    · go_simp
      refine (codecs_any _).mono ?_
      rintro e w7 ⟨b, b1, b2, rfl, C, hb1⟩
      have HC := Lib.hid C
      replace HD := Lib.hid (HD.out.later hb1)
      refine hK.out _ _ ?_ (fun hHeld => ?_)
      · exact below_old' hb1 hHeld
      clear hK K C hb1
      try simp only [List.getElem_toArray, List.getElem_cons_zero, List.getElem_cons_succ, Act.put, List.setIfInBounds_toArray, List.set_cons_zero, List.set_cons_succ]
      refine wpAnyH_ready (rs := [3]) (by kernel_rfl) (by simp) ?_
      refine AllReadyH.cons (o := _) rfl (fun K hK => ?_) AllReadyH.nil
      · have kl := (look_codec HC.out 0 (by omega) (by omega)).1
        rw [show cAt b1 b2 0 = cLaw b1 from rfl] at kl
        simp only [cLaw] at kl
        go_simp
        refine hK.out _ _ ?_ (fun hHeld => ?_)
        · exact hHeld
        clear hK K kl
        try simp only [List.getElem_toArray, List.getElem_cons_zero, List.getElem_cons_succ, Act.put, List.setIfInBounds_toArray, List.set_cons_zero, List.set_cons_succ]
        have hfl := field_codec
        refine tk1 (i := 4) (v := ?_) rfl (Or.inl ⟨by rfl, ?_⟩) hHeld ?_ (hQ := fun _ _ _ h => hQp _ _ _ _ _ h)
        rotate_left
        · (intro w hSw; clear hSw; go_simp; try with_reducible rfl)
        try simp only [List.getElem_toArray, List.getElem_cons_zero, List.getElem_cons_succ, Act.put, List.setIfInBounds_toArray, List.set_cons_zero, List.set_cons_succ]
        clear hfl
        refine wpAnyH_ready (rs := [8]) (by kernel_rfl) (by simp) ?_
        refine AllReadyH.cons (o := _) rfl (fun K hK => ?_) AllReadyH.nil
        · go_simp
          refine (k5.out b1 _ (HZ.out.later hHeld) HC.out.l1).mono ?_
          rintro e w9 ⟨A8, c8, rfl, hI9, hb2⟩
          have HI := Lib.hid (hI9.less hHeld.size)
          replace HD := Lib.hid (HD.out.later hb2)
          refine hK.out _ _ ?_ (fun hHeld => ?_)
          · exact below_old' hb2 hHeld
          clear hK K HC hI9 hb2
          try simp only [List.getElem_toArray, List.getElem_cons_zero, List.getElem_cons_succ, Act.put, List.setIfInBounds_toArray, List.set_cons_zero, List.set_cons_succ]
          refine tk1 (i := 9) (v := ?_) rfl (Or.inl ⟨by rfl, ?_⟩) hHeld ?_ (hQ := fun _ _ _ h => hQp _ _ _ _ _ h)
          rotate_left
          · (intro w hSw; clear hSw; go_simp; try with_reducible rfl)
          try simp only [List.getElem_toArray, List.getElem_cons_zero, List.getElem_cons_succ, Act.put, List.setIfInBounds_toArray, List.set_cons_zero, List.set_cons_succ]
          refine tk1 (i := 10) (v := ?_) rfl (Or.inl ⟨by rfl, ?_⟩) hHeld ?_ (hQ := fun _ _ _ h => hQp _ _ _ _ _ h)
          rotate_left
          · (intro w hSw; clear hSw; go_simp; try with_reducible rfl)
          try simp only [List.getElem_toArray, List.getElem_cons_zero, List.getElem_cons_succ, Act.put, List.setIfInBounds_toArray, List.set_cons_zero, List.set_cons_succ]
          refine tk1 (i := 11) (v := ?_) rfl (Or.inl ⟨by rfl, ?_⟩) hHeld ?_ (hQ := fun _ _ _ h => hQp _ _ _ _ _ h)
          rotate_left
          · (intro w hSw; clear hSw; go_simp; try with_reducible rfl)
          try simp only [List.getElem_toArray, List.getElem_cons_zero, List.getElem_cons_succ, Act.put, List.setIfInBounds_toArray, List.set_cons_zero, List.set_cons_succ]
          refine tk1 (i := 12) (v := ?_) rfl (Or.inl ⟨by rfl, ?_⟩) hHeld ?_ (hQ := fun _ _ _ h => hQp _ _ _ _ _ h)
          rotate_left
          · (intro w hSw; clear hSw; go_simp; try with_reducible rfl)
          try simp only [List.getElem_toArray, List.getElem_cons_zero, List.getElem_cons_succ, Act.put, List.setIfInBounds_toArray, List.set_cons_zero, List.set_cons_succ]
          refine tk1 (i := 14) (v := ?_) rfl (Or.inl ⟨by rfl, ?_⟩) hHeld ?_ (hQ := fun _ _ _ h => hQp _ _ _ _ _ h)
          rotate_left
          · (intro w hSw; clear hSw; go_simp; try with_reducible rfl)
          try simp only [List.getElem_toArray, List.getElem_cons_zero, List.getElem_cons_succ, Act.put, List.setIfInBounds_toArray, List.set_cons_zero, List.set_cons_succ]
          have y0 := HD.out.at 0 _ rfl
          have y1 := HD.out.at 1 _ rfl
          have yz := HD.out.frozen
          refine wpAnyH_ready (rs := [15]) (by kernel_rfl) (by simp) ?_
          refine AllReadyH.cons (o := _) rfl (fun K hK => ?_) AllReadyH.nil
          go_simp
          refine hK.out _ _ ?_ (fun hHeld => ?_)
          · exact below_set_old (below_set_old hHeld hg8 _) hg8 _
          clear hK K
          try simp only [List.getElem_toArray, List.getElem_cons_zero, List.getElem_cons_succ, Act.put, List.setIfInBounds_toArray, List.set_cons_zero, List.set_cons_succ]
          refine tk1 (i := 16) (v := ?_) rfl (Or.inl ⟨by rfl, ?_⟩) hHeld ?_ (hQ := fun _ _ _ h => hQp _ _ _ _ _ h)
          rotate_left
          · (intro w hSw; clear hSw; go_simp; try with_reducible rfl)
          try simp only [List.getElem_toArray, List.getElem_cons_zero, List.getElem_cons_succ, Act.put, List.setIfInBounds_toArray, List.set_cons_zero, List.set_cons_succ]
          refine wpAnyH_done (by kernel_rfl) ?_ _
          have z1 := (HD.out.set_ 0 (.int .i64 v)).at 1 _ rfl
          exact hq.out _ A8 c8 _ _ _ _ _ _ _ _ _ _ _ _ _ _ (Lib.hid ⟨((HI.out.1.set_ne y0 (by intro z e; cases e) _).set_ne z1 (by intro z e; cases e) _).more (by simp [World.setCell]), HI.out.2⟩) (Lib.hid ((HD.out.set_ 0 _).set_ 1 _)) (Lib.hid hg8) (Lib.hid hHeld)
end Go.Proofs.Ytahbecinkciahaa
/- Layer 32: Send without a tone: speech, law 1. -/
namespace Go.Proofs.Ytahbecinkciahaa
open Go.RowKit
set_option linter.unusedVariables false
set_option linter.unusedSimpArgs false
attribute [local go_sem ↓] run_min_plain run_max_plain
attribute [local go_sem] setCell_drewN alloc_drewN
set_option maxRecDepth 100000 in
set_option maxHeartbeats 12800000 in
theorem Send_mu (p : Sb.Pt) (hw : p.wf) (A : Option Addr) (l : List TW) (n c : Nat) (X : Array Value) (hX : X = PA p A n c) (w : World) (hq : l.map TW.w = p.jt.q) (hn : l.length = n) (hl : n ≤ 100000) (hcap : n ≤ c) (hcm : c ≤ maxLen) (hA : Wts w w.heap.size A l) (hK : ∀ a ∈ l, I64 a.w.m.sq) (ZA : Option Addr) (zs : List Int) (zc : Nat) (hZ : IntsAt w w.heap.size .i16 ZA zs) (hz : Within (-32768) 32767 zs) (hzl : zs.length = 160) (hv : p.valid = true) (hp : ∀ a ∈ l, a.w.m.pl.length ≤ 1000000) (hon : p.tn.on = false) (hen : p.tn.ends = 0) (hcd : p.codec = 0) (hqu : ¬Ev.quiet p.below zs = 10) : Calls Try.prog 10 #[.agg X, .slice ZA 160 zc] w (SendR (Sb.send0 p zs) w) := by
  subst hn
  obtain ⟨QN, hQN⟩ : ∃ q, q = Ev.quiet p.below zs := ⟨_, rfl⟩
  have hS : Sb.send0 p zs = ({ (Sb.emit { p with below := QN } p.codec p.time p.mrk (zs.map Cmp.muZ)).1 with mrk := false, cv := p.cv, ci := p.ci, time := (p.time + 160) % 4294967296 }, [(Sb.emit { p with below := QN } p.codec p.time p.mrk (zs.map Cmp.muZ)).2]) := by
    unfold Sb.send0 Sb.later Sb.enc
    rw [if_neg (by rw [hon, hen]; decide), if_neg hqu, if_pos (by rw [hcd])]
    rw [← hQN]
    try rfl
  rw [hS]
  clear hS
  obtain ⟨q9, hq9⟩ : ∃ q, q = (Sb.emit { p with below := QN } p.codec p.time p.mrk (zs.map Cmp.muZ)).1 := ⟨_, rfl⟩
  obtain ⟨k9, hk9⟩ : ∃ k, k = (Sb.emit { p with below := QN } p.codec p.time p.mrk (zs.map Cmp.muZ)).2 := ⟨_, rfl⟩
  rw [← hq9, ← hk9]
  have HQ9 := Lib.hid hq9
  have HK9 := Lib.hid hk9
  have h9t : q9.time = p.time := by rw [hq9]; rfl
  have h9p : k9.pl = zs.map Cmp.muZ := by rw [hk9]; rfl
  have H9T := Lib.hid h9t
  have H9P := Lib.hid h9p
  clear hq9 hk9 h9t h9p
  have B0 := Lib.hid ((PB.new w X hX).push (.cells (PA Sb.Pt.zero none 0 0) 43))
  have B1 := Lib.hid (Blk.new1 w (.cells X 43) 43 (PA Sb.Pt.zero none 0 0))
  have U0 := Lib.hid (((Bel.refl w).push (.cells X 43)).push (.cells (PA Sb.Pt.zero none 0 0) 43))
  have HA := Lib.hid hA
  have HZ := Lib.hid hZ
  have k1 := Lib.hid fun (W : World) hW => pvalid_any p hw A l l.length c (PA p A l.length c) rfl W hq rfl hl hW hK true hv.symm
  have k2 := Lib.hid fun (W : World) hW => copyBuffer_any p.jt A l l.length c W rfl hl hW hp
  unfold CopyR at k2
  have k3 : ∀ W : World, IntsAt W W.heap.size .i16 ZA zs → Calls Try.prog 21 #[.agg #[.int .i64 p.below], .slice ZA 160 zc] W fun e w' => e = .returned (.tuple #[.agg #[.int .i64 (Ev.quiet p.below zs)], .bool (Ev.quiet p.below zs == 10)]) ∧ Below W.heap.size W w' := fun W hW => by
    have h := Silence_any p.below ZA zs zc W hw.below.1 hw.below.2 hW hz (by omega)
    rwa [hzl] at h
  have hw5 : ({ p with below := QN } : Sb.Pt).wf := ⟨hw.codec, hw.src, hw.seq, hw.time, by rw [hQN]; show -9223372036854775808 ≤ Ev.quiet p.below zs ∧ Ev.quiet p.below zs ≤ 9223372036854775807; unfold Ev.quiet; split <;> omega, hw.tvol, hw.tcode, hw.tst, hw.seed, hw.pk, hw.oc⟩
  have HW5 := Lib.hid hw5
  clear hw5
  rw [← hQN] at k3 hqu
  have hqb : (QN == 10) = false := by rw [beq_eq_false_iff_ne]; exact hqu
  rw [hqb] at k3
  clear hqb hqu hQN
  have k5 := Lib.hid fun (v i : Int) (b : Nat) (W : World) hW hB => enc_mu v i ZA zs zc b W hW hz (by omega) hB
  unfold EncR at k5
  have hml : (zs.map Cmp.muZ).length = 160 := by rw [List.length_map, hzl]
  rw [hzl, hml] at k5
  have HML := Lib.hid hml
  clear hml
  have HCD := Lib.hid hcd
  clear hcd
  replace k3 := Lib.hid k3
  have HW := Lib.hid hw
  have HQ := Lib.hid hq
  have HON := Lib.hid hon
  have HEN := Lib.hid hen
  have ht0 := hw.time.1
  have ht1 := hw.time.2
  clear hX hA hZ hK hq hv hp hon hen hw
  go_enter Try.func10, Try.ntmps10
  go_upto_region 1 with fail
  change Code.wp _ _ _ _ ((w.alloc (Obj.cells X 43)).alloc (Obj.cells (PA Sb.Pt.zero none 0 0) 43))
  obtain ⟨W, hW⟩ : ∃ W, W = (w.alloc (Obj.cells X 43)).alloc (Obj.cells (PA Sb.Pt.zero none 0 0) 43) := ⟨_, rfl⟩
  rw [← hW] at B0 B1 U0 ⊢
  clear hW
  go_wp2_with (first | (refine wpList_load_part rfl 43 (.tmp 2) rfl (w.heap.size) 0 rfl 43 (PL p A l.length c) B0.out 48 _ Try.underlying43 info_port (show 0 + 48 ≤ 48 by decide) (PA p A l.length c) (by rfl) rfl ?_) | fail)
  refine (k1.out _ (HA.out.later U0.out)).mono ?_
  rintro e w1 ⟨rfl, hb1⟩
  replace U0 := Lib.hid (U0.out.later hb1)
  replace B0 := Lib.hid (B0.out.later hb1)
  replace B1 := Lib.hid (B1.out.later hb1)
  clear hb1 k1
  go_upto_region 3 with fail
  go_wp2_with (first | (refine wpList_load_part rfl 35 (.tmp 29) rfl (w.heap.size) 14 rfl 43 (PL p A l.length c) B0.out 14 _ Try.underlying35 info_jit (show 14 + 14 ≤ 48 by decide) (#[.int .i64 p.jt.least, .int .i64 p.jt.most, .int .i64 p.jt.now, .bool p.jt.on, .int .i64 p.jt.zero, .int .i64 p.jt.first, .int .i64 p.jt.high, .int .i64 p.jt.done, .int .i64 p.jt.spread, .int .i64 p.jt.trans, .slice A l.length c, .int .i64 p.jt.late, .int .i64 p.jt.twice, .int .i64 p.jt.played]) (by rfl) rfl ?_) | fail)
  have hL1 := B1.out.lt
  refine (k2.out _ (HA.out.later U0.out)).mono ?_
  rintro e w2 ⟨A2, c2, l2, rfl, hm2, hQ2, hb1⟩
  replace U0 := Lib.hid (U0.out.later hb1)
  replace B0 := Lib.hid (B0.out.later hb1)
  replace B1 := Lib.hid (B1.out.later hb1)
  clear hb1 k2
  go_upto_region 4 with (first | (refine wpList_store_part rfl 35 (.tmp 32) (.tmp 31) rfl (w.heap.size) 14 rfl 43 (PL p A l.length c) B0.out (JW p.jt A2 l.length c2) rfl info_jit (show 14 + 14 ≤ 48 by decide) rfl (PL p A2 l.length c2) rfl ?_; intro WF BF OF) | fail)
  have HQO := Lib.hid (hQ2.only OF (by omega))
  have HQL := Lib.hid (show l2.map TW.w = p.jt.q from hm2.trans HQ.out)
  replace B1 := Lib.hid (OF.blk B1.out (by omega))
  replace U0 := Lib.hid (OF.bel U0.out (Nat.le_refl _))
  have hl2 : l2.length = l.length := hQ2.len
  have HM : Hid (PM WF [w.heap.size + 1, w.heap.size] w.heap.size p A2 l.length c2 l2) := Lib.hid ⟨BF, HQL.out, hl2, HQO.out.capm.1, HQO.out.capm.2, QAv.of_own HQO.out (by intro x hx; simp at hx; omega)⟩
  clear hQ2 hm2 BF OF B0 HQO HQL HA
  have hW1 := U0.out.size
  have hW2 := B1.out.lt
  obtain ⟨gl, hgl⟩ : ∃ g, g = WF.heap.size := ⟨_, rfl⟩
  have BL := Lib.hid (Blk.new WF 51 #[.slice none 0 0])
  replace HM := Lib.hid ((HM.out.add (x := gl) (by omega)).push (.cells #[.slice none 0 0] 51))
  replace B1 := Lib.hid (B1.out.push (.cells #[.slice none 0 0] 51))
  replace U0 := Lib.hid (U0.out.push (.cells #[.slice none 0 0] 51))
  have hmf : ∀ (fn : Fn) (first cap : Array Value) (w : World), (Instr.makeFunc fn first cap).run Try.prog w = .ok (.func fn first cap) w := fun _ _ _ _ => rfl
  obtain ⟨W3, hW3⟩ : ∃ W, W = WF.alloc (Obj.cells #[.slice none 0 0] 51) := ⟨_, rfl⟩
  have hgg : w.heap.size + 1 < gl := by omega
  rw [← hgl, ← hW3] at BL
  go_upto_region 6 with fail
  rw [← hgl]
  rw [← hW3] at HM B1 U0 ⊢
  clear hW3 hgl hW1 hW2
  have x5 := HM.out.box.cell 5 _ rfl
  go_wp2_with (first | (refine wpList_load_part rfl 26 (.tmp 35) rfl (w.heap.size) 5 rfl 43 (PL p A2 l.length c2) HM.out.box 1 _ Try.underlying26 info_qui (show 5 + 1 ≤ 48 by decide) (#[.int .i64 p.below]) (by rfl) rfl ?_) | fail)
  refine (k3.out _ (HZ.out.later U0.out)).mono ?_
  rintro e w4 ⟨rfl, hb1⟩
  replace U0 := Lib.hid (U0.out.later hb1)
  replace B1 := Lib.hid (B1.out.later hb1)
  replace BL := Lib.hid (BL.out.later hb1)
  replace HM := Lib.hid (HM.out.later hb1)
  clear hb1 k3 x5
  have BQ := Lib.hid (Blk.new w4 26 #[.int .i64 QN])
  replace U0 := Lib.hid (U0.out.push (.cells #[.int .i64 QN] 26))
  replace B1 := Lib.hid (B1.out.push (.cells #[.int .i64 QN] 26))
  have hbl := BL.out.lt
  replace BL := Lib.hid (BL.out.push (.cells #[.int .i64 QN] 26))
  replace HM := Lib.hid (HM.out.push (.cells #[.int .i64 QN] 26))
  obtain ⟨gq, hgq⟩ : ∃ g, g = w4.heap.size := ⟨_, rfl⟩
  obtain ⟨W5, hW5⟩ : ∃ W, W = w4.alloc (Obj.cells #[.int .i64 QN] 26) := ⟨_, rfl⟩
  rw [← hgq, ← hW5] at BQ
  rw [← hgq] at hbl
  go_upto_region 14 with fail
  rw [← hgq]
  rw [← hW5] at HM B1 U0 BL ⊢
  clear hW5 hgq
  have x8 := HM.out.box.cell 8 _ rfl
  have x13 := HM.out.box.cell 13 _ rfl
  rw [HON.out] at x8
  rw [HEN.out] at x13
  -- WAY
  go_upto_region 8 with (first | (refine wpList_load_part rfl 26 (.tmp 9) rfl (gq) 0 rfl 26 ([.int .i64 QN]) BQ.out 1 _ Try.underlying26 info_qui (show 0 + 1 ≤ 1 by decide) (#[.int .i64 QN]) (by rfl) rfl ?_) | (refine wpList_store_part rfl 26 (.tmp 42) (.tmp 41) rfl (w.heap.size) 5 rfl 43 (PL p A2 l.length c2) HM.out.box ([.int .i64 QN]) rfl info_qui (show 5 + 1 ≤ 48 by decide) rfl (PL { p with below := QN } A2 l.length c2) rfl ?_; intro WG BG OG) | fail)
  clear x8 x13
  replace HM := Lib.hid (HM.out.over (by simp) OG ({ p with below := QN }) BG rfl)
  replace B1 := Lib.hid (OG.blk B1.out (by omega))
  replace BL := Lib.hid (OG.blk BL.out (by omega))
  replace U0 := Lib.hid (OG.bel U0.out (Nat.le_refl _))
  clear BG OG
  clear BQ
  have x0 := HM.out.box.cell 0 _ rfl
  replace x0 := x0.trans (congrArg (fun t => some (Value.int .u8 t)) HCD.out)
  have x6 := HM.out.box.cell 6 _ rfl
  have x7 := HM.out.box.cell 7 _ rfl
  have x0d : WG.cell? ⟨w.heap.size, 0, none⟩ = some (.int .u8 0) := x0
  have x6d : WG.cell? ⟨w.heap.size, 6, none⟩ = some (.int .i64 p.cv) := x6
  have x7d : WG.cell? ⟨w.heap.size, 7, none⟩ = some (.int .i64 p.ci) := x7
  clear x0 x6 x7
  simp only [Act.put]
  have hglt := BL.out.lt
  have hnlt := B1.out.lt
  have hqlt := U0.out.size
  refine sr8mu_wp w.heap.size p.cv p.ci ZA zs zc WG x0d x6d x7d (HZ.out.later U0.out) hz hzl (fun _ _ _ _ _ h => h) ?_
  intro wx A8 c8 g8 u43 u44 u45 u46 u47 u48 u49 u50 u51 u52 u53 u54 u55 HI8 HD8 hg8 HB8
  have hwx := HB8.out.size
  have HN8 := Lib.hid HI8.out.2
  replace U0 := Lib.hid (U0.out.later HB8.out)
  replace B1 := Lib.hid (B1.out.later HB8.out)
  replace BL := Lib.hid (BL.out.later HB8.out)
  replace HM := Lib.hid (HM.out.later HB8.out)
  clear x0d x6d x7d HB8
  have HP9 : Hid (IntsAv wx [gl, w.heap.size + 1, w.heap.size] .u8 A8 (zs.map Cmp.muZ)) := Lib.hid (IntsAv.of_new HI8.out (by intro x hx; simp at hx; omega))
  replace hg8 := hg8.out
  have k6 := fun (V : World) hM hL => emit_any [gl, w.heap.size + 1, w.heap.size] w.heap.size gl { p with below := QN } HW5.out A2 l.length c2 l2 p.codec p.time p.mrk A8 (zs.map Cmp.muZ) c8 V hM (by simp) (by simp) (by omega) hL (by rw [HML.out]; omega)
  rw [HML.out] at k6
  replace k6 := Lib.hid k6
  have x0 := HM.out.box.cell 0 _ rfl
  have x3 := HM.out.box.cell 3 _ rfl
  have x4 := HM.out.box.cell 4 _ rfl
  go_upto_region 11 with fail
  go_wp2_with fail
  refine (k6.out _ HM.out BL.out).mono ?_
  rintro e w8 ⟨rfl, A9, c9, M9, L9, O9, C9⟩
  rw [← HQ9.out] at M9
  rw [← HK9.out] at O9
  replace HM := Lib.hid M9
  replace BL := Lib.hid L9
  have HO9 := Lib.hid O9
  replace HP9 := Lib.hid (HP9.out.chg C9 (by simp))
  replace B1 := Lib.hid (C9.blk B1.out (by simp; omega))
  replace U0 := Lib.hid (C9.bel U0.out (by simp; omega))
  replace HD8 := Lib.hid (C9.blk HD8.out (by simp; omega))
  clear M9 L9 O9 C9
  clear x0 x3 x4 HI8 k6
  have x4 := HM.out.box.cell 4 _ rfl
  have z4 := Blk.frozen HM.out.box 4
  go_upto_region 13 with fail
  obtain ⟨WH, hV⟩ : ∃ W, W = w8.setCell ⟨w.heap.size, 4, none⟩ (.bool false) := ⟨_, rfl⟩
  rw [← hV]
  have OV : OnlyB w.heap.size w8 WH := by rw [hV]; exact OnlyB.setCell _ _ _ _
  replace HM := Lib.hid (show PM WH [gl, w.heap.size + 1, w.heap.size] w.heap.size ({ q9 with mrk := false }) A2 l.length c2 l2 by rw [hV]; exact HM.out.set (by simp) 4 _ _ rfl rfl)
  replace B1 := Lib.hid (OV.blk B1.out (by omega))
  replace BL := Lib.hid (OV.blk BL.out (by omega))
  replace U0 := Lib.hid (OV.bel U0.out (Nat.le_refl _))
  replace HO9 := Lib.hid (OV.owns HO9.out (by omega))
  replace HP9 := Lib.hid (HP9.out.chg (Chg.of_only OV (S := [w.heap.size]) (by simp)) (by simp))
  replace HD8 := Lib.hid (OV.blk HD8.out (by omega))
  clear hV OV
  clear x4 z4
  go_upto_region 31 with (first | (refine wpList_load_part rfl 28 (.tmp 18) rfl (g8) 0 rfl 28 ([.int .i64 p.cv, .int .i64 p.ci]) HD8.out 2 _ Try.underlying28 info_dst (show 0 + 2 ≤ 2 by decide) (#[.int .i64 p.cv, .int .i64 p.ci]) (by rfl) rfl ?_) | (refine wpList_store_part rfl 28 (.tmp 71) (.tmp 70) rfl (w.heap.size) 6 rfl 43 (PL { q9 with mrk := false } A2 l.length c2) HM.out.box ([.int .i64 p.cv, .int .i64 p.ci]) rfl info_dst (show 6 + 2 ≤ 48 by decide) rfl (PL { q9 with mrk := false, cv := p.cv, ci := p.ci } A2 l.length c2) rfl ?_; intro WJ BJ OJ) | fail)
  replace HM := Lib.hid (HM.out.over (by simp) OJ ({ q9 with mrk := false, cv := p.cv, ci := p.ci }) BJ rfl)
  replace B1 := Lib.hid (OJ.blk B1.out (by omega))
  replace BL := Lib.hid (OJ.blk BL.out (by omega))
  replace U0 := Lib.hid (OJ.bel U0.out (Nat.le_refl _))
  replace HO9 := Lib.hid (OJ.owns HO9.out (by omega))
  replace HP9 := Lib.hid (HP9.out.chg (Chg.of_only OJ (S := [w.heap.size]) (by simp)) (by simp))
  clear BJ OJ
  clear HD8
  have x3 := HM.out.box.cell 3 _ rfl
  replace x3 := x3.trans (congrArg (fun t => some (Value.int .u32 t)) H9T.out)
  have z3 := Blk.frozen HM.out.box 3
  go_upto_region 32 with fail
  obtain ⟨WI, hV⟩ : ∃ W, W = WJ.setCell ⟨w.heap.size, 3, none⟩ (.int .u32 ((p.time + 160) % 4294967296)) := ⟨_, rfl⟩
  rw [← hV]
  have OV : OnlyB w.heap.size WJ WI := by rw [hV]; exact OnlyB.setCell _ _ _ _
  replace HM := Lib.hid (show PM WI [gl, w.heap.size + 1, w.heap.size] w.heap.size ({ q9 with mrk := false, cv := p.cv, ci := p.ci, time := (p.time + 160) % 4294967296 }) A2 l.length c2 l2 by rw [hV]; exact HM.out.set (by simp) 3 _ _ rfl rfl)
  replace B1 := Lib.hid (OV.blk B1.out (by omega))
  replace BL := Lib.hid (OV.blk BL.out (by omega))
  replace U0 := Lib.hid (OV.bel U0.out (Nat.le_refl _))
  replace HO9 := Lib.hid (OV.owns HO9.out (by omega))
  replace HP9 := Lib.hid (HP9.out.chg (Chg.of_only OV (S := [w.heap.size]) (by simp)) (by simp))
  clear hV OV
  clear x3 z3
  obtain ⟨q, hq⟩ : ∃ q : Sb.Pt, q = { q9 with mrk := false, cv := p.cv, ci := p.ci, time := (p.time + 160) % 4294967296 } := ⟨_, rfl⟩
  rw [← hq] at HM
  have HQQ := Lib.hid hq
  have HM2 := HM.out.drew
  have V1 : Blk WI.drew (w.heap.size + 1) 43 (PL Sb.Pt.zero none 0 0).toArray := Blk.dr B1.out
  have VU : Bel w WI.drew := Bel.drew U0.out
  have HQL : Hid (l2.map TW.w = q.jt.q) := Lib.hid HM.out.q
  clear hq
  refine wp_region_held_drew (S := fun w' => Blk w' w.heap.size 43 (PL q A2 l.length c2).toArray ∧ Blk w' gl 51 #[.slice A9 1 c9]) (by kernel_rfl) ⟨Blk.dr HM.out.box, Blk.dr BL.out⟩ (fun hHeld => ?_)
  refine tk1 (i := 0) (v := .agg (PA q A2 l.length c2)) rfl (yif_load_part rfl 43 (.tmp 2) rfl w.heap.size 0 rfl 43 (PL q A2 l.length c2) (fun w h => h.1) 48 _ Try.underlying43 info_port (Nat.le_refl 48) _ rfl rfl) hHeld ?_
  try simp only [List.getElem_toArray, List.getElem_cons_zero, List.getElem_cons_succ, Act.put, List.setIfInBounds_toArray, List.set_cons_zero, List.set_cons_succ]
  refine tk1 (i := 1) (v := .slice A9 1 c9) rfl (Or.inl ⟨by rfl, fun w h => by have c2 := h.2.at 0 _ rfl; clear h; go_simp; try with_reducible rfl⟩) hHeld ?_
  try simp only [List.getElem_toArray, List.getElem_cons_zero, List.getElem_cons_succ, Act.put, List.setIfInBounds_toArray, List.set_cons_zero, List.set_cons_succ]
  refine wpAnyH_ready (rs := [2]) (by kernel_rfl) (by simp) ?_
  refine AllReadyH.cons (o := _) rfl (fun K hK => ?_) AllReadyH.nil
  refine step_store_part rfl 43 (.tmp 4) (.tmp 137) rfl (w.heap.size + 1) 0 rfl 43 _ V1 (PL q A2 l.length c2) rfl info_port (Nat.le_refl 48) rfl (PL q A2 l.length c2) rfl ?_
  intro WH BH OH
  refine hK.out _ _ ⟨OH.blk hHeld.1 (by omega), OH.blk hHeld.2 (by omega)⟩ (fun hHeld2 => ?_)
  clear hK K
  try simp only [List.getElem_toArray, List.getElem_cons_zero, List.getElem_cons_succ, Act.put, List.setIfInBounds_toArray, List.set_cons_zero, List.set_cons_succ]
  refine tk1 (i := 3) (v := .slice A9 1 c9) rfl (Or.inl ⟨by rfl, fun w _ => by go_simp; try with_reducible rfl⟩) hHeld2 ?_
  try simp only [List.getElem_toArray, List.getElem_cons_zero, List.getElem_cons_succ, Act.put, List.setIfInBounds_toArray, List.set_cons_zero, List.set_cons_succ]
  refine tk1 (i := 4) (v := .int .u8 0) rfl (Or.inl ⟨by rfl, fun w _ => by go_simp; try with_reducible rfl⟩) hHeld2 ?_
  try simp only [List.getElem_toArray, List.getElem_cons_zero, List.getElem_cons_succ, Act.put, List.setIfInBounds_toArray, List.set_cons_zero, List.set_cons_succ]
  refine wpAnyH_done (by kernel_rfl) ?_ _
  go_wp2_with fail
  rw [← HQQ.out]
  refine bodyPost_ret (v := .tuple #[.agg (PA q A2 l.length c2), .slice A9 1 c9, .int .u8 0]) (res_ctt Try.results10 rfl (PB.load BH) rfl rfl) rfl ⟨A2, l.length, c2, l2, A9, c9, [⟨k9, A8, c8⟩], rfl, rfl, HQL.out, HM2.len, HM2.cap, HM2.cm, (HM2.chg (T := [w.heap.size + 1]) (Chg.of_only OH (by simp)) (by simp) (by simp)).qa.wts, Pks.one (OH.owns (w := WI.drew) HO9.out (by omega)) (IntsAv.chg (W := WI.drew) (S := [gl, w.heap.size + 1, w.heap.size]) ⟨HP9.out.1, HP9.out.2⟩ (Chg.of_only OH (S := [w.heap.size + 1]) (by simp)) (by simp)).1 H9P.out, OH.bel VU (by omega), PksN.one HO9.out (by omega) (fun b off e => by have := HN8.out (by rw [HML.out]; omega) b off e; omega)⟩
end Go.Proofs.Ytahbecinkciahaa
/- Layer 32: New. -/
namespace Go.Proofs.Ytahbecinkciahaa
open Go.RowKit
set_option linter.unusedVariables false
set_option linter.unusedSimpArgs false
attribute [local go_sem ↓] run_min_plain run_max_plain
attribute [local go_sem] setCell_drewN alloc_drewN
/-- what New leaves -/
def NewP (k src l m : Int) (w : World) (e : Ending) (w' : World) : Prop := e = .returned (.tuple #[.agg (PA (Sb.new k src l m).1 none 0 0), .int .u8 (Sb.new k src l m).2]) ∧ Below w.heap.size w w'
set_option maxRecDepth 100000 in
set_option maxHeartbeats 12800000 in
theorem New_any (k src l m : Int) (h0 : 0 ≤ k) (h1 : k ≤ 255) (w : World) : Calls Try.prog 6 #[.int .u8 k, .int .u32 src, .agg #[.int .i64 l, .int .i64 m]] w (NewP k src l m w) := by
  have BC := Lib.hid ((Blk.new w 32 #[.int .i64 l, .int .i64 m]).push (.cells (PA Sb.Pt.zero none 0 0) 43))
  have B1 := Lib.hid (Blk.new1 w (.cells #[.int .i64 l, .int .i64 m] 32) 43 (PA Sb.Pt.zero none 0 0))
  have U0 := Lib.hid (((Bel.refl w).push (.cells #[.int .i64 l, .int .i64 m] 32)).push (.cells (PA Sb.Pt.zero none 0 0) 43))
  have k1 := Lib.hid fun W => speech_any k W h0 h1
  have k2 := Lib.hid fun W => new_any l m W
  unfold NewR at k2
  obtain ⟨v, hv⟩ : ∃ v, v = speechB k := ⟨_, rfl⟩
  rw [← hv] at k1
  have HV := Lib.hid hv
  clear hv
  go_enter Try.func6, Try.ntmps6
  go_upto_region 1 with fail
  change Code.wp _ _ _ _ ((w.alloc (Obj.cells #[.int .i64 l, .int .i64 m] 32)).alloc (Obj.cells (PA Sb.Pt.zero none 0 0) 43))
  obtain ⟨W, hW⟩ : ∃ W, W = (w.alloc (Obj.cells #[.int .i64 l, .int .i64 m] 32)).alloc (Obj.cells (PA Sb.Pt.zero none 0 0) 43) := ⟨_, rfl⟩
  rw [← hW] at BC B1 U0 ⊢
  clear hW
  go_wp2_with fail
  refine (k1.out _).mono ?_
  rintro e w1 ⟨rfl, hb1⟩
  replace U0 := Lib.hid (U0.out.later hb1)
  replace BC := Lib.hid (BC.out.later hb1)
  replace B1 := Lib.hid (B1.out.later hb1)
  have hlt := B1.out.lt
  clear hb1
  cases v
  · have HN : Hid (Sb.new k src l m = (Sb.Pt.zero, 15)) := Lib.hid (by unfold Sb.new; rw [← HV.out, if_pos rfl])
    go_wp2_with (first | (refine wpList_store_part rfl 43 (.tmp 6) (.tmp 13) rfl (w.heap.size + 1) 0 rfl 43 (PL Sb.Pt.zero none 0 0) B1.out (PL Sb.Pt.zero none 0 0) rfl info_port (show 0 + 48 ≤ 48 by decide) rfl (PL Sb.Pt.zero none 0 0) rfl ?_; intro WH BH OH) | fail)
    refine bodyPost_ret (v := .tuple #[.agg (PA (Sb.new k src l m).1 none 0 0), .int .u8 (Sb.new k src l m).2]) (res_ct Try.results6 rfl (by rw [HN.out]; exact PB.load BH) (by rw [HN.out]; rfl)) rfl ⟨rfl, OH.bel U0.out (by omega)⟩
  have c0 := BC.out.at 0 _ rfl
  have c1 := BC.out.at 1 _ rfl
  go_wp2_with fail
  refine (k2.out _).mono ?_
  rintro e w2 ⟨rfl, hb2⟩
  replace U0 := Lib.hid (U0.out.later hb2)
  replace B1 := Lib.hid (B1.out.later hb2)
  have HN : Hid (Sb.new k src l m = (if (Jb.new l m).2 = 0 then { Sb.Pt.zero with codec := k, src := src, mrk := true, jt := (Jb.new l m).1, seed := src } else Sb.Pt.zero, (Jb.new l m).2)) := Lib.hid (by
    unfold Sb.new Jb.new
    rw [← HV.out, if_neg (by decide)]
    by_cases hc : Jb.cfg l m
    · rw [if_pos hc, if_pos hc]; rfl
    · rw [if_neg hc, if_neg hc]; rfl)
  have hus := U0.out.size
  clear hb2 c0 c1
  unfold JV
  generalize Jb.new l m = R at *
  obtain ⟨R1, R2⟩ := R
  simp only at HN
  have BJ := Lib.hid (Blk.new w2 35 (JW R1 none 0 0).toArray)
  obtain ⟨g1, hg1⟩ : ∃ g, g = w2.heap.size := ⟨_, rfl⟩
  obtain ⟨W3, hW3⟩ : ∃ W, W = w2.alloc (.cells (JW R1 none 0 0).toArray 35) := ⟨_, rfl⟩
  have BB := Lib.hid (show Below w2.heap.size w2 W3 by rw [hW3]; exact (Below.refl _ _).alloc (Nat.le_refl _) _)
  rw [← hg1, ← hW3] at BJ
  go_upto_region 4 with fail
  rw [← hg1]
  change Code.wp _ _ _ _ (w2.alloc (Obj.cells (JW R1 none 0 0).toArray 35))
  rw [← hW3]
  replace U0 := Lib.hid (U0.out.later BB.out)
  replace B1 := Lib.hid (B1.out.later BB.out)
  clear hW3 hg1 BB
  by_cases hr : R2 = 0
  rotate_left
  · replace HN := Lib.hid (HN.out.trans (by rw [if_neg hr]))
    go_wp2_with (first | (refine wpList_store_part rfl 43 (.tmp 6) (.tmp 21) rfl (w.heap.size + 1) 0 rfl 43 (PL Sb.Pt.zero none 0 0) B1.out (PL Sb.Pt.zero none 0 0) rfl info_port (show 0 + 48 ≤ 48 by decide) rfl (PL Sb.Pt.zero none 0 0) rfl ?_; intro WH BH OH) | fail)
    refine bodyPost_ret (v := .tuple #[.agg (PA (Sb.new k src l m).1 none 0 0), .int .u8 (Sb.new k src l m).2]) (res_ct Try.results6 rfl (by rw [HN.out]; exact PB.load BH) (by rw [HN.out]; rfl)) rfl ⟨rfl, OH.bel U0.out (by omega)⟩
  subst hr
  replace HN := Lib.hid (HN.out.trans (by rw [if_pos rfl]))
  go_wp2_with (first | (refine wpList_load_part rfl 35 (.tmp 8) rfl (g1) 0 rfl 35 (JW R1 none 0 0) BJ.out 14 _ Try.underlying35 info_jit (show 0 + 14 ≤ 14 by decide) (#[.int .i64 R1.least, .int .i64 R1.most, .int .i64 R1.now, .bool R1.on, .int .i64 R1.zero, .int .i64 R1.first, .int .i64 R1.high, .int .i64 R1.done, .int .i64 R1.spread, .int .i64 R1.trans, .slice none 0 0, .int .i64 R1.late, .int .i64 R1.twice, .int .i64 R1.played]) (by rfl) rfl ?_) | (refine wpList_store_part rfl 43 (.tmp 6) (.tmp 27) rfl (w.heap.size + 1) 0 rfl 43 (PL Sb.Pt.zero none 0 0) B1.out (PL { Sb.Pt.zero with codec := k, src := src, mrk := true, jt := R1, seed := src } none 0 0) rfl info_port (show 0 + 48 ≤ 48 by decide) rfl (PL { Sb.Pt.zero with codec := k, src := src, mrk := true, jt := R1, seed := src } none 0 0) rfl ?_; intro WH BH OH) | fail)
  refine bodyPost_ret (v := .tuple #[.agg (PA (Sb.new k src l m).1 none 0 0), .int .u8 (Sb.new k src l m).2]) (res_ct Try.results6 rfl (by rw [HN.out]; exact PB.load BH) (by rw [HN.out]; rfl)) rfl ⟨rfl, OH.bel U0.out (by omega)⟩
end Go.Proofs.Ytahbecinkciahaa

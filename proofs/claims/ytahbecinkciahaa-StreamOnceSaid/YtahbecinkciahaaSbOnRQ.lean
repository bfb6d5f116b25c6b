/- Layer 32: StreamOnce, the regions that call Send and Receive. -/
import Derived.Test.YtahbecinkciahaaSbLivRQ
import Derived.Test.YtahbecinkciahaaRepArrQ
import Derived.Test.YtahbecinkciahaaSbSSQ
import Derived.Test.YtahbecinkciahaaJtPlainQ
import Derived.Test.YtahbecinkciahaaSbLives
namespace Go.Proofs.Ytahbecinkciahaa
open Go.RowKit
set_option linter.unusedVariables false
set_option linter.unusedSimpArgs false
attribute [local go_sem ↓] run_min_plain run_max_plain
attribute [local go_sem] setCell_drewN alloc_drewN
/-- sounds whose cells lie in blocks from lo to hi -/
structure SdsIn (w : World) (lo hi : Nat) (A : Option Addr) (l : List TS) : Prop where
  rows : Sds w hi A l
  low : 0 < l.length → ∀ b off, A = some ⟨b, off, none⟩ → lo ≤ b
  plow : ∀ a ∈ l, 0 < a.s.zs.length → ∀ b off, a.S = some ⟨b, off, none⟩ → lo ≤ b
theorem SdsIn.keep {w w' : World} {lo hi : Nat} {A : Option Addr} {l : List TS} (h : SdsIn w lo hi A l) (hk : ∀ p : Addr, lo ≤ p.block → p.block < hi → w'.cell? p = w.cell? p) : SdsIn w' lo hi A l := by
  refine ⟨⟨fun h0 => ?_, fun a ha h0 => ?_⟩, h.low, h.plow⟩
  · obtain ⟨b, off, rfl, hb, hc⟩ := h.rows.1 h0
    have hlo := h.low h0 b off rfl
    exact ⟨b, off, rfl, hb, fun i a ha j v hv => (hk _ hlo hb).trans (hc i a ha j v hv)⟩
  · obtain ⟨b, off, e, hb, hc⟩ := h.rows.2 a ha h0
    have hlo := h.plow a ha h0 b off e
    exact ⟨b, off, e, hb, fun i hi => (hk _ hlo hb).trans (hc i hi)⟩
theorem SdsIn.onlyN {W W' : World} {lo hi g : Nat} {A : Option Addr} {l : List TS} (h : SdsIn W lo hi A l) (ho : OnlyB g W W') (hg : g < lo ∨ hi ≤ g) : SdsIn W' lo hi A l := h.keep fun p h1 h2 => ho.cell (by omega)
theorem SdsIn.below {w w' : World} {lo hi : Nat} {A : Option Addr} {l : List TS} (h : SdsIn w lo hi A l) {B : Nat} (hb : Below B w w') (hB : hi ≤ B) : SdsIn w' lo hi A l := h.keep fun q _ hq => hb.cell (by omega)
theorem SdsIn.more {w : World} {lo hi hi' : Nat} {A : Option Addr} {l : List TS} (h : SdsIn w lo hi A l) (hl : hi ≤ hi') : SdsIn w lo hi' A l := ⟨h.rows.more hl, h.low, h.plow⟩
theorem SdsIn.less {w : World} {lo lo' hi : Nat} {A : Option Addr} {l : List TS} (h : SdsIn w lo hi A l) (hl : lo' ≤ lo) : SdsIn w lo' hi A l := ⟨h.rows, fun h0 b off e => Nat.le_trans hl (h.low h0 b off e), fun a ha h0 b off e => Nat.le_trans hl (h.plow a ha h0 b off e)⟩
theorem SOwn.sdsIn {w : World} {base n c : Nat} {A : Option Addr} {l : List TS} (h : SOwn w base A n c l) : SdsIn w base w.heap.size A l := ⟨h.sds, fun _ b off e => (h.own.block b (by rw [e]; rfl)).1, h.new⟩
theorem PksN.less {n m : Nat} {A : Option Addr} {l : List TK} (h : PksN n A l) (hm : m ≤ n) : PksN m A l := ⟨fun h0 b off e => Nat.le_trans hm (h.1 h0 b off e), fun a ha h0 b off e => Nat.le_trans hm (h.2 a ha h0 b off e)⟩
noncomputable def on9_code : Code := ((Try.f4.body.bind (findRegS 9)).getD .skip)
set_option maxRecDepth 100000 in
set_option maxHeartbeats 12800000 in
theorem on9_wp {s0 s1 s3 s4 s5 s6 s8 s9 s10 s11 s12 s13 s15 s16 s17 s18 s19 s20 s21 s22 s23 s24 s25 s26 s27 s28 s29 s30 s31 s32 s33 s34 s35 s36 s37 s38 s39 s40 s41 s42 s43 s44 s45 s46 s47 s48 s49 s50 s51 s52 s53 s54 s55 s56 s57 s58 s59 s60 s61 s62 s63 s64 s65 s66 s67 s68 s69 s70 s71 s72 s73 s74 s75 s76 s77 s78 s79 s80 s81 s82 s83 s84 s85 s86 s87 s88 s89 s90 s91 s92 s93 s94 s95 s96 s97 s98 s99 s100 s101 s102 s103 s104 s105 s106 s107 s108 s109 s110 s111 s112 s113 s114 s115 s116 s117 s118 s119 s120 s121 s122 s123 s124 s125 s126 s127 s128 s129 s130 s131 s132 s133 s134 s135 s136 s137 s138 s139 s140 s141 s142 s143 s144 s145 s146 s147 s148 s149 s150 s151 s152 s153 s154 s155 s156 s157 s158 s159 s160 s161 s162 : Value} {Q : Exit → Act → World → Prop} (g bL oL ln lc k : Nat) (hk1 : k < ln) (hkm : k ≤ 60) (lz : Int) (lz0 : 0 ≤ lz) (lz1 : lz ≤ 65535) (p : Sb.Pt) (A : Option Addr) (c : Nat) (W : World) (xl : W.cell? ⟨bL, oL + k * 5, none⟩ = some (.int .u16 lz)) (hB : PB W g p A 0 c) (hj : ∀ zs, (Sb.send0 p zs).1.jt.q = []) (kS : ∀ (V : World) (ZA : Option Addr) (zs : List Int) (zc : Nat), zs.length = 160 → (Within (-32768) 32767 zs) → IntsAt V V.heap.size .i16 ZA zs → Calls Try.prog 10 #[.agg (PA p A 0 c), .slice ZA 160 zc] V (SendR (Sb.send0 p zs) V)) (hQp : ∀ (ch : _) (a : Act) (d : Tmp) (u : Value) (w : World), Q (.panic ch) (a.put (some d) u) w → Q (.panic ch) a w)
    (h : ∀ (wx : World) (g3 : Nat) (KA : Option Addr) (kc : Nat) (ks : List TK) (A' : Option Addr) (c' : Nat) (zs : List Int) (u45 u46 u47 u48 u49 u50 u51 u52 u53 u54 u55 u56 u57 : Value), zs.length = 160 → Hid (Within (-32768) 32767 zs) → Hid (PB wx g3 (Sb.send0 p zs).1 A' 0 c') → c' ≤ maxLen → Hid (ks.map TK.k = (Sb.send0 p zs).2) → Hid (Pks wx wx.heap.size KA ks) → Hid (PksN W.heap.size KA ks) → Hid (Below W.heap.size W wx) → Q .normal ⟨#[s0, s1, .slice (some ⟨bL, oL, none⟩) ln lc, s3, s4, s5, s6, .pointer (some ⟨g, 0, none⟩), s8, s9, s10, s11, s12, s13, .int .i64 (k : Int), .pointer (some ⟨g3, 0, none⟩), .slice KA ks.length kc, .int .u8 0, s18, s19, s20, s21, s22, s23, s24, s25, s26, s27, s28, s29, s30, s31, s32, s33, s34, s35, s36, s37, s38, s39, s40, s41, s42, s43, s44, u45, u46, u47, u48, u49, u50, u51, u52, u53, u54, u55, u56, u57, s58, s59, s60, s61, s62, s63, s64, s65, s66, s67, s68, s69, s70, s71, s72, s73, s74, s75, s76, s77, s78, s79, s80, s81, s82, s83, s84, s85, s86, s87, s88, s89, s90, s91, s92, s93, s94, s95, s96, s97, s98, s99, s100, s101, s102, s103, s104, s105, s106, s107, s108, s109, s110, s111, s112, s113, s114, s115, s116, s117, s118, s119, s120, s121, s122, s123, s124, s125, s126, s127, s128, s129, s130, s131, s132, s133, s134, s135, s136, s137, s138, s139, s140, s141, s142, s143, s144, s145, s146, s147, s148, s149, s150, s151, s152, s153, s154, s155, s156, s157, s158, s159, s160, s161, s162], []⟩ wx) : on9_code.wp Try.prog Q ⟨#[s0, s1, .slice (some ⟨bL, oL, none⟩) ln lc, s3, s4, s5, s6, .pointer (some ⟨g, 0, none⟩), s8, s9, s10, s11, s12, s13, .int .i64 (k : Int), s15, s16, s17, s18, s19, s20, s21, s22, s23, s24, s25, s26, s27, s28, s29, s30, s31, s32, s33, s34, s35, s36, s37, s38, s39, s40, s41, s42, s43, s44, s45, s46, s47, s48, s49, s50, s51, s52, s53, s54, s55, s56, s57, s58, s59, s60, s61, s62, s63, s64, s65, s66, s67, s68, s69, s70, s71, s72, s73, s74, s75, s76, s77, s78, s79, s80, s81, s82, s83, s84, s85, s86, s87, s88, s89, s90, s91, s92, s93, s94, s95, s96, s97, s98, s99, s100, s101, s102, s103, s104, s105, s106, s107, s108, s109, s110, s111, s112, s113, s114, s115, s116, s117, s118, s119, s120, s121, s122, s123, s124, s125, s126, s127, s128, s129, s130, s131, s132, s133, s134, s135, s136, s137, s138, s139, s140, s141, s142, s143, s144, s145, s146, s147, s148, s149, s150, s151, s152, s153, s154, s155, s156, s157, s158, s159, s160, s161, s162], []⟩ W := by
  have HB := Lib.hid hB
  replace kS := Lib.hid kS
  replace hj := Lib.hid hj
  have hi0 : (0 : Int) ≤ (k : Int) := by omega
  have hi1 : (k : Int) < (ln : Int) := by omega
  clear hB
  have hq := Lib.hid h
  clear h
  conv => arg 2; whnf
  refine wp_region_held_drew (S := fun w' => Below W.heap.size W w') (by kernel_rfl) (Below.drew (Below.refl _ _)) (fun hHeld => ?_)
  refine tk1 (i := 0) (v := .agg (PA p A 0 c)) rfl (yif_load_part rfl 43 (.tmp 7) rfl g 0 rfl 43 (PL p A 0 c) (fun w h => HB.out.later h) 48 _ Try.underlying43 info_port (Nat.le_refl 48) _ rfl rfl) hHeld ?_ (hQ := fun _ _ _ h => hQp _ _ _ _ _ h)
  try simp only [List.getElem_toArray, List.getElem_cons_zero, List.getElem_cons_succ, Act.put, List.setIfInBounds_toArray, List.set_cons_zero, List.set_cons_succ]
  refine tk1 (i := 1) (v := ?_) rfl (Or.inl ⟨by rfl, ?_⟩) hHeld ?_ (hQ := fun _ _ _ h => hQp _ _ _ _ _ h)
  rotate_left
  · (intro w hSw; clear hSw; go_simp; try with_reducible rfl)
  try simp only [List.getElem_toArray, List.getElem_cons_zero, List.getElem_cons_succ, Act.put, List.setIfInBounds_toArray, List.set_cons_zero, List.set_cons_succ]
  refine tk1 (i := 2) (v := ?_) rfl (Or.inl ⟨by rfl, ?_⟩) hHeld ?_ (hQ := fun _ _ _ h => hQp _ _ _ _ _ h)
  rotate_left
  · (intro w hSw; clear hSw; go_simp; try with_reducible rfl)
  try simp only [List.getElem_toArray, List.getElem_cons_zero, List.getElem_cons_succ, Act.put, List.setIfInBounds_toArray, List.set_cons_zero, List.set_cons_succ]
  refine tk1 (i := 3) (v := ?_) rfl (Or.inl ⟨by rfl, ?_⟩) hHeld ?_ (hQ := fun _ _ _ h => hQp _ _ _ _ _ h)
  rotate_left
  · (intro w hSw; clear hSw; go_simp; try with_reducible rfl)
  try simp only [List.getElem_toArray, List.getElem_cons_zero, List.getElem_cons_succ, Act.put, List.setIfInBounds_toArray, List.set_cons_zero, List.set_cons_succ]
  refine tk1 (i := 4) (v := ?_) rfl (Or.inl ⟨by rfl, ?_⟩) hHeld ?_ (hQ := fun _ _ _ h => hQp _ _ _ _ _ h)
  rotate_left
  · (intro w hSw; clear hSw; go_simp; try with_reducible rfl)
  try simp only [List.getElem_toArray, List.getElem_cons_zero, List.getElem_cons_succ, Act.put, List.setIfInBounds_toArray, List.set_cons_zero, List.set_cons_succ]
  refine tk1 (i := 5) (v := ?_) rfl (Or.inl ⟨by rfl, ?_⟩) hHeld ?_ (hQ := fun _ _ _ h => hQp _ _ _ _ _ h)
  rotate_left
  · (intro w hSw; have c0 := cell_old hSw xl; clear hSw; go_simp; try with_reducible rfl)
  try simp only [List.getElem_toArray, List.getElem_cons_zero, List.getElem_cons_succ, Act.put, List.setIfInBounds_toArray, List.set_cons_zero, List.set_cons_succ]
  refine tk1 (i := 6) (v := ?_) rfl (Or.inl ⟨by rfl, ?_⟩) hHeld ?_ (hQ := fun _ _ _ h => hQp _ _ _ _ _ h)
  rotate_left
  · (intro w hSw; clear hSw; go_simp; try with_reducible rfl)
  try simp only [List.getElem_toArray, List.getElem_cons_zero, List.getElem_cons_succ, Act.put, List.setIfInBounds_toArray, List.set_cons_zero, List.set_cons_succ]
  refine wpAnyH_ready (rs := [7, 13]) (by kernel_rfl) (by simp) ?_
  refine AllReadyH.cons (o := _) rfl (fun K hK => ?_) (AllReadyH.cons (o := _) rfl (fun K hK => ?_) AllReadyH.nil)
  · go_simp
    refine (wave_any lz (k : Int) lz0 lz1 (by omega) (by omega) _).mono ?_
    rintro e w7 ⟨zs, ZA, zc, hzl, hzw, rfl, hI, hb1⟩
    have HZ := Lib.hid hI.1
    have HZL := Lib.hid hzl
    have HZW := Lib.hid hzw
    clear hI hzl hzw
    refine hK.out _ _ ?_ (fun hHeld => ?_)
    · exact below_old' hb1 hHeld
    clear hK K hb1
    try simp only [List.getElem_toArray, List.getElem_cons_zero, List.getElem_cons_succ, Act.put, List.setIfInBounds_toArray, List.set_cons_zero, List.set_cons_succ]
    refine wpAnyH_ready (rs := [8, 13]) (by kernel_rfl) (by simp) ?_
    refine AllReadyH.cons (o := _) rfl (fun K hK => ?_) (AllReadyH.cons (o := _) rfl (fun K hK => ?_) AllReadyH.nil)
    · go_simp
      have hlo := hHeld.size
      refine (kS.out _ ZA zs zc HZL.out HZW.out HZ.out).mono ?_
      rintro e w9 ⟨A', n', c', l', KA, kc, ks, rfl, hk, hq1, hn, hc1, hc2, hW, hP, hb2, hN⟩
      obtain rfl : l' = [] := List.map_eq_nil_iff.1 (hq1.trans (hj.out zs))
      obtain rfl : 0 = n' := hn
      have HN := Lib.hid hN
      have HP := Lib.hid hP
      have HK := Lib.hid hk
      clear hk hq1 hc1 hW hP hN HZ
      refine hK.out _ _ ?_ (fun hHeld => ?_)
      · exact below_old' hb2 hHeld
      clear hK K hb2
      try simp only [List.getElem_toArray, List.getElem_cons_zero, List.getElem_cons_succ, Act.put, List.setIfInBounds_toArray, List.set_cons_zero, List.set_cons_succ]
      refine tk1 (i := 9) (v := ?_) rfl (Or.inl ⟨by rfl, ?_⟩) hHeld ?_ (hQ := fun _ _ _ h => hQp _ _ _ _ _ h)
      rotate_left
      · (intro w hSw; clear hSw; go_simp; try with_reducible rfl)
      try simp only [List.getElem_toArray, List.getElem_cons_zero, List.getElem_cons_succ, Act.put, List.setIfInBounds_toArray, List.set_cons_zero, List.set_cons_succ]
      refine tk1 (i := 10) (v := ?_) rfl (Or.inl ⟨by rfl, ?_⟩) hHeld ?_ (hQ := fun _ _ _ h => hQp _ _ _ _ _ h)
      rotate_left
      · (intro w hSw; clear hSw; go_simp; try with_reducible rfl)
      try simp only [List.getElem_toArray, List.getElem_cons_zero, List.getElem_cons_succ, Act.put, List.setIfInBounds_toArray, List.set_cons_zero, List.set_cons_succ]
      refine tk1 (i := 11) (v := ?_) rfl (Or.inl ⟨by rfl, ?_⟩) hHeld ?_ (hQ := fun _ _ _ h => hQp _ _ _ _ _ h)
      rotate_left
      · (intro w hSw; clear hSw; go_simp; try with_reducible rfl)
      try simp only [List.getElem_toArray, List.getElem_cons_zero, List.getElem_cons_succ, Act.put, List.setIfInBounds_toArray, List.set_cons_zero, List.set_cons_succ]
      refine tk1 (i := 12) (v := ?_) rfl (Or.inl ⟨by rfl, ?_⟩) hHeld ?_ (hQ := fun _ _ _ h => hQp _ _ _ _ _ h)
      rotate_left
      · (intro w hSw; clear hSw; go_simp; try with_reducible rfl)
      try simp only [List.getElem_toArray, List.getElem_cons_zero, List.getElem_cons_succ, Act.put, List.setIfInBounds_toArray, List.set_cons_zero, List.set_cons_succ]
      refine wpAnyH_ready (rs := [13]) (by kernel_rfl) (by simp) ?_
      refine AllReadyH.cons (o := _) rfl (fun K hK => ?_) AllReadyH.nil
      · go_simp
        have HD : Hid (Blk ((w9).alloc (Obj.cells #[.int .u8 0, .int .u32 0, .int .u16 0, .int .u32 0, .bool false, .int .i64 0, .int .i64 0, .int .i64 0, .bool false, .int .u8 0, .int .u8 0, .int .u32 0, .int .i64 0, .int .i64 0, .int .i64 0, .int .i64 0, .int .i64 0, .bool false, .int .i64 0, .int .i64 0, .int .i64 0, .int .i64 0, .int .i64 0, .int .i64 0, .slice none 0 0, .int .i64 0, .int .i64 0, .int .i64 0, .bool false, .int .i64 0, .int .i64 0, .int .i64 0, .bool false, .int .i64 0, .int .i64 0, .int .i64 0, .int .i64 0, .int .i64 0, .int .i64 0, .int .i64 0, .bool false, .int .u32 0, .int .u8 0, .int .i64 0, .bool false, .int .u32 0, .int .u32 0, .int .u32 0] 43)) (w9).heap.size 43 (PL Sb.Pt.zero none 0 0).toArray) := Lib.hid (by first | exact Blk.new _ _ _ | exact Blk.dr (Blk.new _ _ _))
        have hg8 : W.heap.size ≤ (w9).heap.size := hHeld.size
        obtain ⟨g8, hgg⟩ : ∃ g, g = (w9).heap.size := ⟨_, rfl⟩
        replace HP := Lib.hid (HP.out.keep (fun p hp => World.cell?_alloc_lt _ (Obj.cells #[.int .u8 0, .int .u32 0, .int .u16 0, .int .u32 0, .bool false, .int .i64 0, .int .i64 0, .int .i64 0, .bool false, .int .u8 0, .int .u8 0, .int .u32 0, .int .i64 0, .int .i64 0, .int .i64 0, .int .i64 0, .int .i64 0, .bool false, .int .i64 0, .int .i64 0, .int .i64 0, .int .i64 0, .int .i64 0, .int .i64 0, .slice none 0 0, .int .i64 0, .int .i64 0, .int .i64 0, .bool false, .int .i64 0, .int .i64 0, .int .i64 0, .bool false, .int .i64 0, .int .i64 0, .int .i64 0, .int .i64 0, .int .i64 0, .int .i64 0, .int .i64 0, .bool false, .int .u32 0, .int .u8 0, .int .i64 0, .bool false, .int .u32 0, .int .u32 0, .int .u32 0] 43) p hp))
        refine hK.out _ _ ?_ (fun hHeld => ?_)
        · exact below_new_old hHeld _
        clear hK K
        try simp only [List.getElem_toArray, List.getElem_cons_zero, List.getElem_cons_succ, Act.put, List.setIfInBounds_toArray, List.set_cons_zero, List.set_cons_succ]
        obtain ⟨V2, hV⟩ : ∃ V, V = (w9).alloc (Obj.cells #[.int .u8 0, .int .u32 0, .int .u16 0, .int .u32 0, .bool false, .int .i64 0, .int .i64 0, .int .i64 0, .bool false, .int .u8 0, .int .u8 0, .int .u32 0, .int .i64 0, .int .i64 0, .int .i64 0, .int .i64 0, .int .i64 0, .bool false, .int .i64 0, .int .i64 0, .int .i64 0, .int .i64 0, .int .i64 0, .int .i64 0, .slice none 0 0, .int .i64 0, .int .i64 0, .int .i64 0, .bool false, .int .i64 0, .int .i64 0, .int .i64 0, .bool false, .int .i64 0, .int .i64 0, .int .i64 0, .int .i64 0, .int .i64 0, .int .i64 0, .int .i64 0, .bool false, .int .u32 0, .int .u8 0, .int .i64 0, .bool false, .int .u32 0, .int .u32 0, .int .u32 0] 43) := ⟨_, rfl⟩
        rw [← hV] at HD hHeld HP ⊢
        clear hV
        rw [← hgg] at HD hg8 ⊢
        have HGG := Lib.hid hgg
        clear hgg
        refine wpAnyH_ready (rs := [14]) (by kernel_rfl) (by simp) ?_
        refine AllReadyH.cons (o := _) rfl (fun K hK => ?_) AllReadyH.nil
        refine step_store_part rfl 43 (.tmp 15) (.tmp 55) rfl (g8) 0 rfl 43 _ HD.out (PL (Sb.send0 p zs).1 A' 0 c') rfl info_port (Nat.le_refl 48) rfl (PL (Sb.send0 p zs).1 A' 0 c') rfl ?_
        intro WF BF OF
        have HF := OF.bel (show Bel W V2 from hHeld) (by first | exact hg8 | exact Nat.le_refl _)
        refine hK.out _ _ HF (fun hHeld => ?_)
        clear hK K
        try simp only [List.getElem_toArray, List.getElem_cons_zero, List.getElem_cons_succ, Act.put, List.setIfInBounds_toArray, List.set_cons_zero, List.set_cons_succ]
        refine tk1 (i := 15) (v := ?_) rfl (Or.inl ⟨by rfl, ?_⟩) hHeld ?_ (hQ := fun _ _ _ h => hQp _ _ _ _ _ h)
        rotate_left
        · (intro w hSw; clear hSw; go_simp; try with_reducible rfl)
        try simp only [List.getElem_toArray, List.getElem_cons_zero, List.getElem_cons_succ, Act.put, List.setIfInBounds_toArray, List.set_cons_zero, List.set_cons_succ]
        refine tk1 (i := 16) (v := ?_) rfl (Or.inl ⟨by rfl, ?_⟩) hHeld ?_ (hQ := fun _ _ _ h => hQp _ _ _ _ _ h)
        rotate_left
        · (intro w hSw; clear hSw; go_simp; try with_reducible rfl)
        try simp only [List.getElem_toArray, List.getElem_cons_zero, List.getElem_cons_succ, Act.put, List.setIfInBounds_toArray, List.set_cons_zero, List.set_cons_succ]
        refine wpAnyH_done (by kernel_rfl) ?_ _
        exact hq.out WF (g8) KA kc ks A' c' zs _ _ _ _ _ _ _ _ _ _ _ _ _ HZL.out HZW (Lib.hid BF) hc2 HK (Lib.hid ((HP.out.onlyN HN.out OF (by first | exact Or.inl HCS.out | exact Or.inr (by rw [HGG.out]; exact Nat.le_refl _))).more (by rw [OF.2]; first | exact Nat.le_refl _ | (have h1 := HD.out.lt; have h2 := HGG.out; omega)))) (Lib.hid (HN.out.less hlo)) (Lib.hid HF)
    · go_simp
      have HD : Hid (Blk ((w7).alloc (Obj.cells #[.int .u8 0, .int .u32 0, .int .u16 0, .int .u32 0, .bool false, .int .i64 0, .int .i64 0, .int .i64 0, .bool false, .int .u8 0, .int .u8 0, .int .u32 0, .int .i64 0, .int .i64 0, .int .i64 0, .int .i64 0, .int .i64 0, .bool false, .int .i64 0, .int .i64 0, .int .i64 0, .int .i64 0, .int .i64 0, .int .i64 0, .slice none 0 0, .int .i64 0, .int .i64 0, .int .i64 0, .bool false, .int .i64 0, .int .i64 0, .int .i64 0, .bool false, .int .i64 0, .int .i64 0, .int .i64 0, .int .i64 0, .int .i64 0, .int .i64 0, .int .i64 0, .bool false, .int .u32 0, .int .u8 0, .int .i64 0, .bool false, .int .u32 0, .int .u32 0, .int .u32 0] 43)) (w7).heap.size 43 (PL Sb.Pt.zero none 0 0).toArray) := Lib.hid (by first | exact Blk.new _ _ _ | exact Blk.dr (Blk.new _ _ _))
      have hg8 : W.heap.size ≤ (w7).heap.size := hHeld.size
      obtain ⟨g8, hgg⟩ : ∃ g, g = (w7).heap.size := ⟨_, rfl⟩
      replace HZ := Lib.hid (HZ.out.push (Obj.cells #[.int .u8 0, .int .u32 0, .int .u16 0, .int .u32 0, .bool false, .int .i64 0, .int .i64 0, .int .i64 0, .bool false, .int .u8 0, .int .u8 0, .int .u32 0, .int .i64 0, .int .i64 0, .int .i64 0, .int .i64 0, .int .i64 0, .bool false, .int .i64 0, .int .i64 0, .int .i64 0, .int .i64 0, .int .i64 0, .int .i64 0, .slice none 0 0, .int .i64 0, .int .i64 0, .int .i64 0, .bool false, .int .i64 0, .int .i64 0, .int .i64 0, .bool false, .int .i64 0, .int .i64 0, .int .i64 0, .int .i64 0, .int .i64 0, .int .i64 0, .int .i64 0, .bool false, .int .u32 0, .int .u8 0, .int .i64 0, .bool false, .int .u32 0, .int .u32 0, .int .u32 0] 43))
      refine hK.out _ _ ?_ (fun hHeld => ?_)
      · exact below_new_old hHeld _
      clear hK K
      try simp only [List.getElem_toArray, List.getElem_cons_zero, List.getElem_cons_succ, Act.put, List.setIfInBounds_toArray, List.set_cons_zero, List.set_cons_succ]
      obtain ⟨V1, hV⟩ : ∃ V, V = (w7).alloc (Obj.cells #[.int .u8 0, .int .u32 0, .int .u16 0, .int .u32 0, .bool false, .int .i64 0, .int .i64 0, .int .i64 0, .bool false, .int .u8 0, .int .u8 0, .int .u32 0, .int .i64 0, .int .i64 0, .int .i64 0, .int .i64 0, .int .i64 0, .bool false, .int .i64 0, .int .i64 0, .int .i64 0, .int .i64 0, .int .i64 0, .int .i64 0, .slice none 0 0, .int .i64 0, .int .i64 0, .int .i64 0, .bool false, .int .i64 0, .int .i64 0, .int .i64 0, .bool false, .int .i64 0, .int .i64 0, .int .i64 0, .int .i64 0, .int .i64 0, .int .i64 0, .int .i64 0, .bool false, .int .u32 0, .int .u8 0, .int .i64 0, .bool false, .int .u32 0, .int .u32 0, .int .u32 0] 43) := ⟨_, rfl⟩
      rw [← hV] at HD hHeld HZ ⊢
      clear hV
      rw [← hgg] at HD hg8 ⊢
      have HGG := Lib.hid hgg
      clear hgg
      refine wpAnyH_ready (rs := [8]) (by kernel_rfl) (by simp) ?_
      refine AllReadyH.cons (o := _) rfl (fun K hK => ?_) AllReadyH.nil
      · go_simp
        have hgd := HD.out.lt
        have hlo := hHeld.size
        refine (kS.out _ ZA zs zc HZL.out HZW.out HZ.out).mono ?_
        rintro e w9 ⟨A', n', c', l', KA, kc, ks, rfl, hk, hq1, hn, hc1, hc2, hW, hP, hb2, hN⟩
        obtain rfl : l' = [] := List.map_eq_nil_iff.1 (hq1.trans (hj.out zs))
        obtain rfl : 0 = n' := hn
        have HN := Lib.hid hN
        have HP := Lib.hid hP
        have HK := Lib.hid hk
        clear hk hq1 hc1 hW hP hN HZ
        replace HD := Lib.hid (HD.out.later hb2)
        have HCS := Lib.hid hgd
        clear hgd
        refine hK.out _ _ ?_ (fun hHeld => ?_)
        · exact below_old' hb2 hHeld
        clear hK K hb2
        try simp only [List.getElem_toArray, List.getElem_cons_zero, List.getElem_cons_succ, Act.put, List.setIfInBounds_toArray, List.set_cons_zero, List.set_cons_succ]
        refine tk1 (i := 9) (v := ?_) rfl (Or.inl ⟨by rfl, ?_⟩) hHeld ?_ (hQ := fun _ _ _ h => hQp _ _ _ _ _ h)
        rotate_left
        · (intro w hSw; clear hSw; go_simp; try with_reducible rfl)
        try simp only [List.getElem_toArray, List.getElem_cons_zero, List.getElem_cons_succ, Act.put, List.setIfInBounds_toArray, List.set_cons_zero, List.set_cons_succ]
        refine tk1 (i := 10) (v := ?_) rfl (Or.inl ⟨by rfl, ?_⟩) hHeld ?_ (hQ := fun _ _ _ h => hQp _ _ _ _ _ h)
        rotate_left
        · (intro w hSw; clear hSw; go_simp; try with_reducible rfl)
        try simp only [List.getElem_toArray, List.getElem_cons_zero, List.getElem_cons_succ, Act.put, List.setIfInBounds_toArray, List.set_cons_zero, List.set_cons_succ]
        refine tk1 (i := 11) (v := ?_) rfl (Or.inl ⟨by rfl, ?_⟩) hHeld ?_ (hQ := fun _ _ _ h => hQp _ _ _ _ _ h)
        rotate_left
        · (intro w hSw; clear hSw; go_simp; try with_reducible rfl)
        try simp only [List.getElem_toArray, List.getElem_cons_zero, List.getElem_cons_succ, Act.put, List.setIfInBounds_toArray, List.set_cons_zero, List.set_cons_succ]
        refine tk1 (i := 12) (v := ?_) rfl (Or.inl ⟨by rfl, ?_⟩) hHeld ?_ (hQ := fun _ _ _ h => hQp _ _ _ _ _ h)
        rotate_left
        · (intro w hSw; clear hSw; go_simp; try with_reducible rfl)
        try simp only [List.getElem_toArray, List.getElem_cons_zero, List.getElem_cons_succ, Act.put, List.setIfInBounds_toArray, List.set_cons_zero, List.set_cons_succ]
        refine wpAnyH_ready (rs := [14]) (by kernel_rfl) (by simp) ?_
        refine AllReadyH.cons (o := _) rfl (fun K hK => ?_) AllReadyH.nil
        refine step_store_part rfl 43 (.tmp 15) (.tmp 55) rfl (g8) 0 rfl 43 _ HD.out (PL (Sb.send0 p zs).1 A' 0 c') rfl info_port (Nat.le_refl 48) rfl (PL (Sb.send0 p zs).1 A' 0 c') rfl ?_
        intro WF BF OF
        have HF := OF.bel (show Bel W w9 from hHeld) (by first | exact hg8 | exact Nat.le_refl _)
        refine hK.out _ _ HF (fun hHeld => ?_)
        clear hK K
        try simp only [List.getElem_toArray, List.getElem_cons_zero, List.getElem_cons_succ, Act.put, List.setIfInBounds_toArray, List.set_cons_zero, List.set_cons_succ]
        refine tk1 (i := 15) (v := ?_) rfl (Or.inl ⟨by rfl, ?_⟩) hHeld ?_ (hQ := fun _ _ _ h => hQp _ _ _ _ _ h)
        rotate_left
        · (intro w hSw; clear hSw; go_simp; try with_reducible rfl)
        try simp only [List.getElem_toArray, List.getElem_cons_zero, List.getElem_cons_succ, Act.put, List.setIfInBounds_toArray, List.set_cons_zero, List.set_cons_succ]
        refine tk1 (i := 16) (v := ?_) rfl (Or.inl ⟨by rfl, ?_⟩) hHeld ?_ (hQ := fun _ _ _ h => hQp _ _ _ _ _ h)
        rotate_left
        · (intro w hSw; clear hSw; go_simp; try with_reducible rfl)
        try simp only [List.getElem_toArray, List.getElem_cons_zero, List.getElem_cons_succ, Act.put, List.setIfInBounds_toArray, List.set_cons_zero, List.set_cons_succ]
        refine wpAnyH_done (by kernel_rfl) ?_ _
        exact hq.out WF (g8) KA kc ks A' c' zs _ _ _ _ _ _ _ _ _ _ _ _ _ HZL.out HZW (Lib.hid BF) hc2 HK (Lib.hid ((HP.out.onlyN HN.out OF (by first | exact Or.inl HCS.out | exact Or.inr (by rw [HGG.out]; exact Nat.le_refl _))).more (by rw [OF.2]; first | exact Nat.le_refl _ | (have h1 := HD.out.lt; have h2 := HGG.out; omega)))) (Lib.hid (HN.out.less hlo)) (Lib.hid HF)
  · go_simp
    have HD : Hid (Blk ((W.alloc (Obj.cells #[.int .u8 0, .int .u32 0, .int .u16 0, .int .u32 0, .bool false, .int .i64 0, .int .i64 0, .int .i64 0, .bool false, .int .u8 0, .int .u8 0, .int .u32 0, .int .i64 0, .int .i64 0, .int .i64 0, .int .i64 0, .int .i64 0, .bool false, .int .i64 0, .int .i64 0, .int .i64 0, .int .i64 0, .int .i64 0, .int .i64 0, .slice none 0 0, .int .i64 0, .int .i64 0, .int .i64 0, .bool false, .int .i64 0, .int .i64 0, .int .i64 0, .bool false, .int .i64 0, .int .i64 0, .int .i64 0, .int .i64 0, .int .i64 0, .int .i64 0, .int .i64 0, .bool false, .int .u32 0, .int .u8 0, .int .i64 0, .bool false, .int .u32 0, .int .u32 0, .int .u32 0] 43)).drew) (W).heap.size 43 (PL Sb.Pt.zero none 0 0).toArray) := Lib.hid (by first | exact Blk.new _ _ _ | exact Blk.dr (Blk.new _ _ _))
    have hg8 : W.heap.size ≤ (W).heap.size := hHeld.size
    obtain ⟨g8, hgg⟩ : ∃ g, g = (W).heap.size := ⟨_, rfl⟩
    refine hK.out _ _ ?_ (fun hHeld => ?_)
    · exact Below.drew (below_new_old (Below.refl _ _) _)
    clear hK K
    try simp only [List.getElem_toArray, List.getElem_cons_zero, List.getElem_cons_succ, Act.put, List.setIfInBounds_toArray, List.set_cons_zero, List.set_cons_succ]
    obtain ⟨V0, hV⟩ : ∃ V, V = (W.alloc (Obj.cells #[.int .u8 0, .int .u32 0, .int .u16 0, .int .u32 0, .bool false, .int .i64 0, .int .i64 0, .int .i64 0, .bool false, .int .u8 0, .int .u8 0, .int .u32 0, .int .i64 0, .int .i64 0, .int .i64 0, .int .i64 0, .int .i64 0, .bool false, .int .i64 0, .int .i64 0, .int .i64 0, .int .i64 0, .int .i64 0, .int .i64 0, .slice none 0 0, .int .i64 0, .int .i64 0, .int .i64 0, .bool false, .int .i64 0, .int .i64 0, .int .i64 0, .bool false, .int .i64 0, .int .i64 0, .int .i64 0, .int .i64 0, .int .i64 0, .int .i64 0, .int .i64 0, .bool false, .int .u32 0, .int .u8 0, .int .i64 0, .bool false, .int .u32 0, .int .u32 0, .int .u32 0] 43)).drew := ⟨_, rfl⟩
    rw [← hV] at HD hHeld ⊢
    clear hV
    subst hgg
    refine wpAnyH_ready (rs := [7]) (by kernel_rfl) (by simp) ?_
    refine AllReadyH.cons (o := _) rfl (fun K hK => ?_) AllReadyH.nil
    · go_simp
      have hgd := HD.out.lt
      refine (wave_any lz (k : Int) lz0 lz1 (by omega) (by omega) _).mono ?_
      rintro e w7 ⟨zs, ZA, zc, hzl, hzw, rfl, hI, hb1⟩
      replace HD := Lib.hid (HD.out.later hb1)
      clear hgd
      have HZ := Lib.hid hI.1
      have HZL := Lib.hid hzl
      have HZW := Lib.hid hzw
      clear hI hzl hzw
      refine hK.out _ _ ?_ (fun hHeld => ?_)
      · exact below_old' hb1 hHeld
      clear hK K hb1
      try simp only [List.getElem_toArray, List.getElem_cons_zero, List.getElem_cons_succ, Act.put, List.setIfInBounds_toArray, List.set_cons_zero, List.set_cons_succ]
      refine wpAnyH_ready (rs := [8]) (by kernel_rfl) (by simp) ?_
      refine AllReadyH.cons (o := _) rfl (fun K hK => ?_) AllReadyH.nil
      · go_simp
        have hgd := HD.out.lt
        have hlo := hHeld.size
        refine (kS.out _ ZA zs zc HZL.out HZW.out HZ.out).mono ?_
        rintro e w9 ⟨A', n', c', l', KA, kc, ks, rfl, hk, hq1, hn, hc1, hc2, hW, hP, hb2, hN⟩
        obtain rfl : l' = [] := List.map_eq_nil_iff.1 (hq1.trans (hj.out zs))
        obtain rfl : 0 = n' := hn
        have HN := Lib.hid hN
        have HP := Lib.hid hP
        have HK := Lib.hid hk
        clear hk hq1 hc1 hW hP hN HZ
        replace HD := Lib.hid (HD.out.later hb2)
        have HCS := Lib.hid hgd
        clear hgd
        refine hK.out _ _ ?_ (fun hHeld => ?_)
        · exact below_old' hb2 hHeld
        clear hK K hb2
        try simp only [List.getElem_toArray, List.getElem_cons_zero, List.getElem_cons_succ, Act.put, List.setIfInBounds_toArray, List.set_cons_zero, List.set_cons_succ]
        refine tk1 (i := 9) (v := ?_) rfl (Or.inl ⟨by rfl, ?_⟩) hHeld ?_ (hQ := fun _ _ _ h => hQp _ _ _ _ _ h)
        rotate_left
        · (intro w hSw; clear hSw; go_simp; try with_reducible rfl)
        try simp only [List.getElem_toArray, List.getElem_cons_zero, List.getElem_cons_succ, Act.put, List.setIfInBounds_toArray, List.set_cons_zero, List.set_cons_succ]
        refine tk1 (i := 10) (v := ?_) rfl (Or.inl ⟨by rfl, ?_⟩) hHeld ?_ (hQ := fun _ _ _ h => hQp _ _ _ _ _ h)
        rotate_left
        · (intro w hSw; clear hSw; go_simp; try with_reducible rfl)
        try simp only [List.getElem_toArray, List.getElem_cons_zero, List.getElem_cons_succ, Act.put, List.setIfInBounds_toArray, List.set_cons_zero, List.set_cons_succ]
        refine tk1 (i := 11) (v := ?_) rfl (Or.inl ⟨by rfl, ?_⟩) hHeld ?_ (hQ := fun _ _ _ h => hQp _ _ _ _ _ h)
        rotate_left
        · (intro w hSw; clear hSw; go_simp; try with_reducible rfl)
        try simp only [List.getElem_toArray, List.getElem_cons_zero, List.getElem_cons_succ, Act.put, List.setIfInBounds_toArray, List.set_cons_zero, List.set_cons_succ]
        refine tk1 (i := 12) (v := ?_) rfl (Or.inl ⟨by rfl, ?_⟩) hHeld ?_ (hQ := fun _ _ _ h => hQp _ _ _ _ _ h)
        rotate_left
        · (intro w hSw; clear hSw; go_simp; try with_reducible rfl)
        try simp only [List.getElem_toArray, List.getElem_cons_zero, List.getElem_cons_succ, Act.put, List.setIfInBounds_toArray, List.set_cons_zero, List.set_cons_succ]
        refine wpAnyH_ready (rs := [14]) (by kernel_rfl) (by simp) ?_
        refine AllReadyH.cons (o := _) rfl (fun K hK => ?_) AllReadyH.nil
        refine step_store_part rfl 43 (.tmp 15) (.tmp 55) rfl (W.heap.size) 0 rfl 43 _ HD.out (PL (Sb.send0 p zs).1 A' 0 c') rfl info_port (Nat.le_refl 48) rfl (PL (Sb.send0 p zs).1 A' 0 c') rfl ?_
        intro WF BF OF
        have HF := OF.bel (show Bel W w9 from hHeld) (by first | exact hg8 | exact Nat.le_refl _)
        refine hK.out _ _ HF (fun hHeld => ?_)
        clear hK K
        try simp only [List.getElem_toArray, List.getElem_cons_zero, List.getElem_cons_succ, Act.put, List.setIfInBounds_toArray, List.set_cons_zero, List.set_cons_succ]
        refine tk1 (i := 15) (v := ?_) rfl (Or.inl ⟨by rfl, ?_⟩) hHeld ?_ (hQ := fun _ _ _ h => hQp _ _ _ _ _ h)
        rotate_left
        · (intro w hSw; clear hSw; go_simp; try with_reducible rfl)
        try simp only [List.getElem_toArray, List.getElem_cons_zero, List.getElem_cons_succ, Act.put, List.setIfInBounds_toArray, List.set_cons_zero, List.set_cons_succ]
        refine tk1 (i := 16) (v := ?_) rfl (Or.inl ⟨by rfl, ?_⟩) hHeld ?_ (hQ := fun _ _ _ h => hQp _ _ _ _ _ h)
        rotate_left
        · (intro w hSw; clear hSw; go_simp; try with_reducible rfl)
        try simp only [List.getElem_toArray, List.getElem_cons_zero, List.getElem_cons_succ, Act.put, List.setIfInBounds_toArray, List.set_cons_zero, List.set_cons_succ]
        refine wpAnyH_done (by kernel_rfl) ?_ _
        exact hq.out WF (W.heap.size) KA kc ks A' c' zs _ _ _ _ _ _ _ _ _ _ _ _ _ HZL.out HZW (Lib.hid BF) hc2 HK (Lib.hid ((HP.out.onlyN HN.out OF (by first | exact Or.inl HCS.out | exact Or.inr (by rw [HGG.out]; exact Nat.le_refl _))).more (by rw [OF.2]; first | exact Nat.le_refl _ | (have h1 := HD.out.lt; have h2 := HGG.out; omega)))) (Lib.hid (HN.out.less hlo)) (Lib.hid HF)
noncomputable def on15_code : Code := ((Try.f4.body.bind (findRegS 15)).getD .skip)
set_option maxRecDepth 100000 in
set_option maxHeartbeats 12800000 in
theorem on15_wp {s0 s1 s2 s3 s4 s5 s6 s7 s8 s11 s12 s13 s14 s15 s17 s18 s19 s20 s21 s22 s23 s24 s25 s26 s27 s28 s29 s30 s31 s32 s33 s34 s35 s36 s37 s38 s39 s40 s41 s42 s43 s44 s45 s46 s47 s48 s49 s50 s51 s52 s53 s54 s55 s56 s57 s58 s59 s60 s61 s62 s63 s64 s65 s66 s67 s68 s69 s70 s71 s72 s73 s74 s75 s76 s77 s78 s79 s80 s81 s82 s83 s84 s85 s86 s87 s88 s89 s90 s91 s92 s93 s94 s95 s96 s97 s98 s99 s100 s101 s102 s103 s104 s105 s106 s107 s108 s109 s110 s111 s112 s113 s114 s115 s116 s117 s118 s119 s120 s121 s122 s123 s124 s125 s126 s127 s128 s129 s130 s131 s132 s133 s134 s135 s136 s137 s138 s139 s140 s141 s142 s143 s144 s145 s146 s147 s148 s149 s150 s151 s152 s153 s154 s155 s156 s157 s158 s159 s160 s161 s162 : Value} {Q : Exit → Act → World → Prop} (g bK oK kc : Nat) (k : Sb.Pkt) (B : Option Addr) (bc : Nat) (now : Int) (u : Sb.Pt) (A : Option Addr) (n c : Nat) (R : Sb.Pt × Int × List Sb.Sd) (W : World) (hB : PB W g u A n c) (x0 : W.cell? ⟨bK, oK, none⟩ = some (.bool k.mrk)) (x1 : W.cell? ⟨bK, oK + 1, none⟩ = some (.int .u8 k.ty)) (x2 : W.cell? ⟨bK, oK + 2, none⟩ = some (.int .u16 k.sq)) (x3 : W.cell? ⟨bK, oK + 3, none⟩ = some (.int .u32 k.ti)) (x4 : W.cell? ⟨bK, oK + 4, none⟩ = some (.int .u32 k.src)) (x5 : W.cell? ⟨bK, oK + 5, none⟩ = some (.slice none 0 0)) (x6 : W.cell? ⟨bK, oK + 6, none⟩ = some (.bool false)) (x7 : W.cell? ⟨bK, oK + 7, none⟩ = some (.int .u16 0)) (x8 : W.cell? ⟨bK, oK + 8, none⟩ = some (.slice none 0 0)) (x9 : W.cell? ⟨bK, oK + 9, none⟩ = some (.slice B k.pl.length bc)) (x10 : W.cell? ⟨bK, oK + 10, none⟩ = some (.int .i64 0)) (kR : ∀ V : World, Below W.heap.size W V → Calls Try.prog 12 #[.agg (PA u A n c), .int .i64 now, .agg #[.bool k.mrk, .int .u8 k.ty, .int .u16 k.sq, .int .u32 k.ti, .int .u32 k.src, .slice none 0 0, .bool false, .int .u16 0, .slice none 0 0, .slice B k.pl.length bc, .int .i64 0]] V (RecvR R V)) (hQp : ∀ (ch : _) (a : Act) (d : Tmp) (u : Value) (w : World), Q (.panic ch) (a.put (some d) u) w → Q (.panic ch) a w)
    (h : ∀ (wx : World) (g3 : Nat) (SA : Option Addr) (sc : Nat) (A' : Option Addr) (n' c' : Nat) (l' : List TW) (ls : List TS) (u79 u80 u81 u82 u83 u84 u85 u86 u87 u88 u89 : Value), Hid (PB wx g3 R.1 A' n' c') → Hid (l'.map TW.w = R.1.jt.q) → l'.length = n' → n' ≤ c' → c' ≤ maxLen → Hid (WtsIn wx W.heap.size wx.heap.size A' l') → Hid (ls.map TS.s = R.2.2) → Hid (SdsIn wx W.heap.size wx.heap.size SA ls) → Hid (Below W.heap.size W wx) → Q .normal ⟨#[s0, s1, s2, s3, s4, s5, s6, s7, s8, .pointer (some ⟨g, 0, none⟩), .int .i64 now, s11, s12, s13, s14, s15, .slice (some ⟨bK, oK, none⟩) 1 kc, s17, .pointer (some ⟨g3, 0, none⟩), .int .u8 R.2.1, .slice SA ls.length sc, .int .u8 0, s22, s23, s24, s25, s26, s27, s28, s29, s30, s31, s32, s33, s34, s35, s36, s37, s38, s39, s40, s41, s42, s43, s44, s45, s46, s47, s48, s49, s50, s51, s52, s53, s54, s55, s56, s57, s58, s59, s60, s61, s62, s63, s64, s65, s66, s67, s68, s69, s70, s71, s72, s73, s74, s75, s76, s77, s78, u79, u80, u81, u82, u83, u84, u85, u86, u87, u88, u89, s90, s91, s92, s93, s94, s95, s96, s97, s98, s99, s100, s101, s102, s103, s104, s105, s106, s107, s108, s109, s110, s111, s112, s113, s114, s115, s116, s117, s118, s119, s120, s121, s122, s123, s124, s125, s126, s127, s128, s129, s130, s131, s132, s133, s134, s135, s136, s137, s138, s139, s140, s141, s142, s143, s144, s145, s146, s147, s148, s149, s150, s151, s152, s153, s154, s155, s156, s157, s158, s159, s160, s161, s162], []⟩ wx) : on15_code.wp Try.prog Q ⟨#[s0, s1, s2, s3, s4, s5, s6, s7, s8, .pointer (some ⟨g, 0, none⟩), .int .i64 now, s11, s12, s13, s14, s15, .slice (some ⟨bK, oK, none⟩) 1 kc, s17, s18, s19, s20, s21, s22, s23, s24, s25, s26, s27, s28, s29, s30, s31, s32, s33, s34, s35, s36, s37, s38, s39, s40, s41, s42, s43, s44, s45, s46, s47, s48, s49, s50, s51, s52, s53, s54, s55, s56, s57, s58, s59, s60, s61, s62, s63, s64, s65, s66, s67, s68, s69, s70, s71, s72, s73, s74, s75, s76, s77, s78, s79, s80, s81, s82, s83, s84, s85, s86, s87, s88, s89, s90, s91, s92, s93, s94, s95, s96, s97, s98, s99, s100, s101, s102, s103, s104, s105, s106, s107, s108, s109, s110, s111, s112, s113, s114, s115, s116, s117, s118, s119, s120, s121, s122, s123, s124, s125, s126, s127, s128, s129, s130, s131, s132, s133, s134, s135, s136, s137, s138, s139, s140, s141, s142, s143, s144, s145, s146, s147, s148, s149, s150, s151, s152, s153, s154, s155, s156, s157, s158, s159, s160, s161, s162], []⟩ W := by
  have HB := Lib.hid hB
  replace kR := Lib.hid kR
  clear hB
  have hq := Lib.hid h
  clear h
  conv => arg 2; whnf
  refine wp_region_held_drew (S := fun w' => Below W.heap.size W w') (by kernel_rfl) (Below.drew (Below.refl _ _)) (fun hHeld => ?_)
  refine tk1 (i := 0) (v := .agg (PA u A n c)) rfl (yif_load_part rfl 43 (.tmp 9) rfl g 0 rfl 43 (PL u A n c) (fun w h => HB.out.later h) 48 _ Try.underlying43 info_port (Nat.le_refl 48) _ rfl rfl) hHeld ?_ (hQ := fun _ _ _ h => hQp _ _ _ _ _ h)
  try simp only [List.getElem_toArray, List.getElem_cons_zero, List.getElem_cons_succ, Act.put, List.setIfInBounds_toArray, List.set_cons_zero, List.set_cons_succ]
  refine tk1 (i := 1) (v := ?_) rfl (Or.inl ⟨by rfl, ?_⟩) hHeld ?_ (hQ := fun _ _ _ h => hQp _ _ _ _ _ h)
  rotate_left
  · (intro w hSw; clear hSw; go_simp; try with_reducible rfl)
  try simp only [List.getElem_toArray, List.getElem_cons_zero, List.getElem_cons_succ, Act.put, List.setIfInBounds_toArray, List.set_cons_zero, List.set_cons_succ]
  refine tk1 (i := 2) (v := ?_) rfl (Or.inl ⟨by rfl, ?_⟩) hHeld ?_ (hQ := fun _ _ _ h => hQp _ _ _ _ _ h)
  rotate_left
  · (intro w hSw; clear hSw; go_simp; try with_reducible rfl)
  try simp only [List.getElem_toArray, List.getElem_cons_zero, List.getElem_cons_succ, Act.put, List.setIfInBounds_toArray, List.set_cons_zero, List.set_cons_succ]
  refine tk1 (i := 3) (v := ?_) rfl (Or.inl ⟨by rfl, ?_⟩) hHeld ?_ (hQ := fun _ _ _ h => hQp _ _ _ _ _ h)
  rotate_left
  · (intro w hSw; clear hSw; go_simp; try with_reducible rfl)
  try simp only [List.getElem_toArray, List.getElem_cons_zero, List.getElem_cons_succ, Act.put, List.setIfInBounds_toArray, List.set_cons_zero, List.set_cons_succ]
  refine tk1 (i := 4) (v := ?_) rfl (Or.inl ⟨by rfl, ?_⟩) hHeld ?_ (hQ := fun _ _ _ h => hQp _ _ _ _ _ h)
  rotate_left
  · (intro w hSw; have c0 := cell_old hSw x0; have c1 := cell_old hSw x1; have c2 := cell_old hSw x2; have c3 := cell_old hSw x3; have c4 := cell_old hSw x4; have c5 := cell_old hSw x5; have c6 := cell_old hSw x6; have c7 := cell_old hSw x7; have c8 := cell_old hSw x8; have c9 := cell_old hSw x9; have c10 := cell_old hSw x10; clear hSw; go_simp; try with_reducible rfl)
  try simp only [List.getElem_toArray, List.getElem_cons_zero, List.getElem_cons_succ, Act.put, List.setIfInBounds_toArray, List.set_cons_zero, List.set_cons_succ]
  refine wpAnyH_ready (rs := [5, 11]) (by kernel_rfl) (by simp) ?_
  refine AllReadyH.cons (o := _) rfl (fun K hK => ?_) (AllReadyH.cons (o := _) rfl (fun K hK => ?_) AllReadyH.nil)
  · go_simp
    have hlo := hHeld.size
    refine (kR.out _ hHeld).mono ?_
    rintro e w9 ⟨A', n', c', l', SA, sc, m, ls, base, rfl, hq1, hn, hc1, hc2, hW, hls, hbs, hso, hb2⟩
    obtain rfl : ls.length = m := hso.len
    have HW := Lib.hid hW
    have HSD := Lib.hid (hso.sdsIn.less hbs)
    have HQ1 := Lib.hid hq1
    have HLS := Lib.hid hls
    clear hq1 hW hls hbs hso
    refine hK.out _ _ ?_ (fun hHeld => ?_)
    · exact below_old' hb2 hHeld
    clear hK K hb2
    try simp only [List.getElem_toArray, List.getElem_cons_zero, List.getElem_cons_succ, Act.put, List.setIfInBounds_toArray, List.set_cons_zero, List.set_cons_succ]
    refine tk1 (i := 6) (v := ?_) rfl (Or.inl ⟨by rfl, ?_⟩) hHeld ?_ (hQ := fun _ _ _ h => hQp _ _ _ _ _ h)
    rotate_left
    · (intro w hSw; clear hSw; go_simp; try with_reducible rfl)
    try simp only [List.getElem_toArray, List.getElem_cons_zero, List.getElem_cons_succ, Act.put, List.setIfInBounds_toArray, List.set_cons_zero, List.set_cons_succ]
    refine tk1 (i := 7) (v := ?_) rfl (Or.inl ⟨by rfl, ?_⟩) hHeld ?_ (hQ := fun _ _ _ h => hQp _ _ _ _ _ h)
    rotate_left
    · (intro w hSw; clear hSw; go_simp; try with_reducible rfl)
    try simp only [List.getElem_toArray, List.getElem_cons_zero, List.getElem_cons_succ, Act.put, List.setIfInBounds_toArray, List.set_cons_zero, List.set_cons_succ]
    refine tk1 (i := 8) (v := ?_) rfl (Or.inl ⟨by rfl, ?_⟩) hHeld ?_ (hQ := fun _ _ _ h => hQp _ _ _ _ _ h)
    rotate_left
    · (intro w hSw; clear hSw; go_simp; try with_reducible rfl)
    try simp only [List.getElem_toArray, List.getElem_cons_zero, List.getElem_cons_succ, Act.put, List.setIfInBounds_toArray, List.set_cons_zero, List.set_cons_succ]
    refine tk1 (i := 9) (v := ?_) rfl (Or.inl ⟨by rfl, ?_⟩) hHeld ?_ (hQ := fun _ _ _ h => hQp _ _ _ _ _ h)
    rotate_left
    · (intro w hSw; clear hSw; go_simp; try with_reducible rfl)
    try simp only [List.getElem_toArray, List.getElem_cons_zero, List.getElem_cons_succ, Act.put, List.setIfInBounds_toArray, List.set_cons_zero, List.set_cons_succ]
    refine tk1 (i := 10) (v := ?_) rfl (Or.inl ⟨by rfl, ?_⟩) hHeld ?_ (hQ := fun _ _ _ h => hQp _ _ _ _ _ h)
    rotate_left
    · (intro w hSw; clear hSw; go_simp; try with_reducible rfl)
    try simp only [List.getElem_toArray, List.getElem_cons_zero, List.getElem_cons_succ, Act.put, List.setIfInBounds_toArray, List.set_cons_zero, List.set_cons_succ]
    refine wpAnyH_ready (rs := [11]) (by kernel_rfl) (by simp) ?_
    refine AllReadyH.cons (o := _) rfl (fun K hK => ?_) AllReadyH.nil
    · go_simp
      have HD : Hid (Blk ((w9).alloc (Obj.cells #[.int .u8 0, .int .u32 0, .int .u16 0, .int .u32 0, .bool false, .int .i64 0, .int .i64 0, .int .i64 0, .bool false, .int .u8 0, .int .u8 0, .int .u32 0, .int .i64 0, .int .i64 0, .int .i64 0, .int .i64 0, .int .i64 0, .bool false, .int .i64 0, .int .i64 0, .int .i64 0, .int .i64 0, .int .i64 0, .int .i64 0, .slice none 0 0, .int .i64 0, .int .i64 0, .int .i64 0, .bool false, .int .i64 0, .int .i64 0, .int .i64 0, .bool false, .int .i64 0, .int .i64 0, .int .i64 0, .int .i64 0, .int .i64 0, .int .i64 0, .int .i64 0, .bool false, .int .u32 0, .int .u8 0, .int .i64 0, .bool false, .int .u32 0, .int .u32 0, .int .u32 0] 43)) (w9).heap.size 43 (PL Sb.Pt.zero none 0 0).toArray) := Lib.hid (by first | exact Blk.new _ _ _ | exact Blk.dr (Blk.new _ _ _))
      have hg8 : W.heap.size ≤ (w9).heap.size := hHeld.size
      obtain ⟨g8, hgg⟩ : ∃ g, g = (w9).heap.size := ⟨_, rfl⟩
      replace HW := Lib.hid (HW.out.below ((Below.refl _ _).alloc (Nat.le_refl _) (Obj.cells #[.int .u8 0, .int .u32 0, .int .u16 0, .int .u32 0, .bool false, .int .i64 0, .int .i64 0, .int .i64 0, .bool false, .int .u8 0, .int .u8 0, .int .u32 0, .int .i64 0, .int .i64 0, .int .i64 0, .int .i64 0, .int .i64 0, .bool false, .int .i64 0, .int .i64 0, .int .i64 0, .int .i64 0, .int .i64 0, .int .i64 0, .slice none 0 0, .int .i64 0, .int .i64 0, .int .i64 0, .bool false, .int .i64 0, .int .i64 0, .int .i64 0, .bool false, .int .i64 0, .int .i64 0, .int .i64 0, .int .i64 0, .int .i64 0, .int .i64 0, .int .i64 0, .bool false, .int .u32 0, .int .u8 0, .int .i64 0, .bool false, .int .u32 0, .int .u32 0, .int .u32 0] 43)) (Nat.le_refl _))
      replace HSD := Lib.hid (HSD.out.below ((Below.refl _ _).alloc (Nat.le_refl _) (Obj.cells #[.int .u8 0, .int .u32 0, .int .u16 0, .int .u32 0, .bool false, .int .i64 0, .int .i64 0, .int .i64 0, .bool false, .int .u8 0, .int .u8 0, .int .u32 0, .int .i64 0, .int .i64 0, .int .i64 0, .int .i64 0, .int .i64 0, .bool false, .int .i64 0, .int .i64 0, .int .i64 0, .int .i64 0, .int .i64 0, .int .i64 0, .slice none 0 0, .int .i64 0, .int .i64 0, .int .i64 0, .bool false, .int .i64 0, .int .i64 0, .int .i64 0, .bool false, .int .i64 0, .int .i64 0, .int .i64 0, .int .i64 0, .int .i64 0, .int .i64 0, .int .i64 0, .bool false, .int .u32 0, .int .u8 0, .int .i64 0, .bool false, .int .u32 0, .int .u32 0, .int .u32 0] 43)) (Nat.le_refl _))
      refine hK.out _ _ ?_ (fun hHeld => ?_)
      · exact below_new_old hHeld _
      clear hK K
      try simp only [List.getElem_toArray, List.getElem_cons_zero, List.getElem_cons_succ, Act.put, List.setIfInBounds_toArray, List.set_cons_zero, List.set_cons_succ]
      obtain ⟨V1, hV⟩ : ∃ V, V = (w9).alloc (Obj.cells #[.int .u8 0, .int .u32 0, .int .u16 0, .int .u32 0, .bool false, .int .i64 0, .int .i64 0, .int .i64 0, .bool false, .int .u8 0, .int .u8 0, .int .u32 0, .int .i64 0, .int .i64 0, .int .i64 0, .int .i64 0, .int .i64 0, .bool false, .int .i64 0, .int .i64 0, .int .i64 0, .int .i64 0, .int .i64 0, .int .i64 0, .slice none 0 0, .int .i64 0, .int .i64 0, .int .i64 0, .bool false, .int .i64 0, .int .i64 0, .int .i64 0, .bool false, .int .i64 0, .int .i64 0, .int .i64 0, .int .i64 0, .int .i64 0, .int .i64 0, .int .i64 0, .bool false, .int .u32 0, .int .u8 0, .int .i64 0, .bool false, .int .u32 0, .int .u32 0, .int .u32 0] 43) := ⟨_, rfl⟩
      rw [← hV] at HD hHeld HW HSD ⊢
      clear hV
      rw [← hgg] at HD hg8 ⊢
      have HGG := Lib.hid hgg
      clear hgg
      refine wpAnyH_ready (rs := [12]) (by kernel_rfl) (by simp) ?_
      refine AllReadyH.cons (o := _) rfl (fun K hK => ?_) AllReadyH.nil
      refine step_store_part rfl 43 (.tmp 18) (.tmp 86) rfl (g8) 0 rfl 43 _ HD.out (PL R.1 A' n' c') rfl info_port (Nat.le_refl 48) rfl (PL R.1 A' n' c') rfl ?_
      intro WF BF OF
      have HF := OF.bel (show Bel W V1 from hHeld) (by first | exact hg8 | exact Nat.le_refl _)
      refine hK.out _ _ HF (fun hHeld => ?_)
      clear hK K
      try simp only [List.getElem_toArray, List.getElem_cons_zero, List.getElem_cons_succ, Act.put, List.setIfInBounds_toArray, List.set_cons_zero, List.set_cons_succ]
      refine tk1 (i := 13) (v := ?_) rfl (Or.inl ⟨by rfl, ?_⟩) hHeld ?_ (hQ := fun _ _ _ h => hQp _ _ _ _ _ h)
      rotate_left
      · (intro w hSw; clear hSw; go_simp; try with_reducible rfl)
      try simp only [List.getElem_toArray, List.getElem_cons_zero, List.getElem_cons_succ, Act.put, List.setIfInBounds_toArray, List.set_cons_zero, List.set_cons_succ]
      refine tk1 (i := 14) (v := ?_) rfl (Or.inl ⟨by rfl, ?_⟩) hHeld ?_ (hQ := fun _ _ _ h => hQp _ _ _ _ _ h)
      rotate_left
      · (intro w hSw; clear hSw; go_simp; try with_reducible rfl)
      try simp only [List.getElem_toArray, List.getElem_cons_zero, List.getElem_cons_succ, Act.put, List.setIfInBounds_toArray, List.set_cons_zero, List.set_cons_succ]
      refine tk1 (i := 15) (v := ?_) rfl (Or.inl ⟨by rfl, ?_⟩) hHeld ?_ (hQ := fun _ _ _ h => hQp _ _ _ _ _ h)
      rotate_left
      · (intro w hSw; clear hSw; go_simp; try with_reducible rfl)
      try simp only [List.getElem_toArray, List.getElem_cons_zero, List.getElem_cons_succ, Act.put, List.setIfInBounds_toArray, List.set_cons_zero, List.set_cons_succ]
      refine wpAnyH_done (by kernel_rfl) ?_ _
      exact hq.out WF (g8) SA sc A' n' c' l' ls _ _ _ _ _ _ _ _ _ _ _ (Lib.hid BF) HQ1 hn hc1 hc2 (Lib.hid (((HW.out.onlyN OF (by first | exact Or.inl HCS.out | exact Or.inr (by rw [HGG.out]; exact Nat.le_refl _))).more (by rw [OF.2]; first | exact Nat.le_refl _ | (have h1 := HD.out.lt; have h2 := HGG.out; omega))).less hlo)) HLS (Lib.hid (((HSD.out.onlyN OF (by first | exact Or.inl HCS.out | exact Or.inr (by rw [HGG.out]; exact Nat.le_refl _))).more (by rw [OF.2]; first | exact Nat.le_refl _ | (have h1 := HD.out.lt; have h2 := HGG.out; omega))).less hlo)) (Lib.hid HF)
  · go_simp
    have HD : Hid (Blk ((W.alloc (Obj.cells #[.int .u8 0, .int .u32 0, .int .u16 0, .int .u32 0, .bool false, .int .i64 0, .int .i64 0, .int .i64 0, .bool false, .int .u8 0, .int .u8 0, .int .u32 0, .int .i64 0, .int .i64 0, .int .i64 0, .int .i64 0, .int .i64 0, .bool false, .int .i64 0, .int .i64 0, .int .i64 0, .int .i64 0, .int .i64 0, .int .i64 0, .slice none 0 0, .int .i64 0, .int .i64 0, .int .i64 0, .bool false, .int .i64 0, .int .i64 0, .int .i64 0, .bool false, .int .i64 0, .int .i64 0, .int .i64 0, .int .i64 0, .int .i64 0, .int .i64 0, .int .i64 0, .bool false, .int .u32 0, .int .u8 0, .int .i64 0, .bool false, .int .u32 0, .int .u32 0, .int .u32 0] 43)).drew) (W).heap.size 43 (PL Sb.Pt.zero none 0 0).toArray) := Lib.hid (by first | exact Blk.new _ _ _ | exact Blk.dr (Blk.new _ _ _))
    have hg8 : W.heap.size ≤ (W).heap.size := hHeld.size
    obtain ⟨g8, hgg⟩ : ∃ g, g = (W).heap.size := ⟨_, rfl⟩
    refine hK.out _ _ ?_ (fun hHeld => ?_)
    · exact Below.drew (below_new_old (Below.refl _ _) _)
    clear hK K
    try simp only [List.getElem_toArray, List.getElem_cons_zero, List.getElem_cons_succ, Act.put, List.setIfInBounds_toArray, List.set_cons_zero, List.set_cons_succ]
    obtain ⟨V0, hV⟩ : ∃ V, V = (W.alloc (Obj.cells #[.int .u8 0, .int .u32 0, .int .u16 0, .int .u32 0, .bool false, .int .i64 0, .int .i64 0, .int .i64 0, .bool false, .int .u8 0, .int .u8 0, .int .u32 0, .int .i64 0, .int .i64 0, .int .i64 0, .int .i64 0, .int .i64 0, .bool false, .int .i64 0, .int .i64 0, .int .i64 0, .int .i64 0, .int .i64 0, .int .i64 0, .slice none 0 0, .int .i64 0, .int .i64 0, .int .i64 0, .bool false, .int .i64 0, .int .i64 0, .int .i64 0, .bool false, .int .i64 0, .int .i64 0, .int .i64 0, .int .i64 0, .int .i64 0, .int .i64 0, .int .i64 0, .bool false, .int .u32 0, .int .u8 0, .int .i64 0, .bool false, .int .u32 0, .int .u32 0, .int .u32 0] 43)).drew := ⟨_, rfl⟩
    rw [← hV] at HD hHeld ⊢
    clear hV
    subst hgg
    refine wpAnyH_ready (rs := [5]) (by kernel_rfl) (by simp) ?_
    refine AllReadyH.cons (o := _) rfl (fun K hK => ?_) AllReadyH.nil
    · go_simp
      have hgd := HD.out.lt
      have hlo := hHeld.size
      refine (kR.out _ hHeld).mono ?_
      rintro e w9 ⟨A', n', c', l', SA, sc, m, ls, base, rfl, hq1, hn, hc1, hc2, hW, hls, hbs, hso, hb2⟩
      obtain rfl : ls.length = m := hso.len
      have HW := Lib.hid hW
      have HSD := Lib.hid (hso.sdsIn.less hbs)
      have HQ1 := Lib.hid hq1
      have HLS := Lib.hid hls
      clear hq1 hW hls hbs hso
      replace HD := Lib.hid (HD.out.later hb2)
      have HCS := Lib.hid hgd
      clear hgd
      refine hK.out _ _ ?_ (fun hHeld => ?_)
      · exact below_old' hb2 hHeld
      clear hK K hb2
      try simp only [List.getElem_toArray, List.getElem_cons_zero, List.getElem_cons_succ, Act.put, List.setIfInBounds_toArray, List.set_cons_zero, List.set_cons_succ]
      refine tk1 (i := 6) (v := ?_) rfl (Or.inl ⟨by rfl, ?_⟩) hHeld ?_ (hQ := fun _ _ _ h => hQp _ _ _ _ _ h)
      rotate_left
      · (intro w hSw; clear hSw; go_simp; try with_reducible rfl)
      try simp only [List.getElem_toArray, List.getElem_cons_zero, List.getElem_cons_succ, Act.put, List.setIfInBounds_toArray, List.set_cons_zero, List.set_cons_succ]
      refine tk1 (i := 7) (v := ?_) rfl (Or.inl ⟨by rfl, ?_⟩) hHeld ?_ (hQ := fun _ _ _ h => hQp _ _ _ _ _ h)
      rotate_left
      · (intro w hSw; clear hSw; go_simp; try with_reducible rfl)
      try simp only [List.getElem_toArray, List.getElem_cons_zero, List.getElem_cons_succ, Act.put, List.setIfInBounds_toArray, List.set_cons_zero, List.set_cons_succ]
      refine tk1 (i := 8) (v := ?_) rfl (Or.inl ⟨by rfl, ?_⟩) hHeld ?_ (hQ := fun _ _ _ h => hQp _ _ _ _ _ h)
      rotate_left
      · (intro w hSw; clear hSw; go_simp; try with_reducible rfl)
      try simp only [List.getElem_toArray, List.getElem_cons_zero, List.getElem_cons_succ, Act.put, List.setIfInBounds_toArray, List.set_cons_zero, List.set_cons_succ]
      refine tk1 (i := 9) (v := ?_) rfl (Or.inl ⟨by rfl, ?_⟩) hHeld ?_ (hQ := fun _ _ _ h => hQp _ _ _ _ _ h)
      rotate_left
      · (intro w hSw; clear hSw; go_simp; try with_reducible rfl)
      try simp only [List.getElem_toArray, List.getElem_cons_zero, List.getElem_cons_succ, Act.put, List.setIfInBounds_toArray, List.set_cons_zero, List.set_cons_succ]
      refine tk1 (i := 10) (v := ?_) rfl (Or.inl ⟨by rfl, ?_⟩) hHeld ?_ (hQ := fun _ _ _ h => hQp _ _ _ _ _ h)
      rotate_left
      · (intro w hSw; clear hSw; go_simp; try with_reducible rfl)
      try simp only [List.getElem_toArray, List.getElem_cons_zero, List.getElem_cons_succ, Act.put, List.setIfInBounds_toArray, List.set_cons_zero, List.set_cons_succ]
      refine wpAnyH_ready (rs := [12]) (by kernel_rfl) (by simp) ?_
      refine AllReadyH.cons (o := _) rfl (fun K hK => ?_) AllReadyH.nil
      refine step_store_part rfl 43 (.tmp 18) (.tmp 86) rfl (W.heap.size) 0 rfl 43 _ HD.out (PL R.1 A' n' c') rfl info_port (Nat.le_refl 48) rfl (PL R.1 A' n' c') rfl ?_
      intro WF BF OF
      have HF := OF.bel (show Bel W w9 from hHeld) (by first | exact hg8 | exact Nat.le_refl _)
      refine hK.out _ _ HF (fun hHeld => ?_)
      clear hK K
      try simp only [List.getElem_toArray, List.getElem_cons_zero, List.getElem_cons_succ, Act.put, List.setIfInBounds_toArray, List.set_cons_zero, List.set_cons_succ]
      refine tk1 (i := 13) (v := ?_) rfl (Or.inl ⟨by rfl, ?_⟩) hHeld ?_ (hQ := fun _ _ _ h => hQp _ _ _ _ _ h)
      rotate_left
      · (intro w hSw; clear hSw; go_simp; try with_reducible rfl)
      try simp only [List.getElem_toArray, List.getElem_cons_zero, List.getElem_cons_succ, Act.put, List.setIfInBounds_toArray, List.set_cons_zero, List.set_cons_succ]
      refine tk1 (i := 14) (v := ?_) rfl (Or.inl ⟨by rfl, ?_⟩) hHeld ?_ (hQ := fun _ _ _ h => hQp _ _ _ _ _ h)
      rotate_left
      · (intro w hSw; clear hSw; go_simp; try with_reducible rfl)
      try simp only [List.getElem_toArray, List.getElem_cons_zero, List.getElem_cons_succ, Act.put, List.setIfInBounds_toArray, List.set_cons_zero, List.set_cons_succ]
      refine tk1 (i := 15) (v := ?_) rfl (Or.inl ⟨by rfl, ?_⟩) hHeld ?_ (hQ := fun _ _ _ h => hQp _ _ _ _ _ h)
      rotate_left
      · (intro w hSw; clear hSw; go_simp; try with_reducible rfl)
      try simp only [List.getElem_toArray, List.getElem_cons_zero, List.getElem_cons_succ, Act.put, List.setIfInBounds_toArray, List.set_cons_zero, List.set_cons_succ]
      refine wpAnyH_done (by kernel_rfl) ?_ _
      exact hq.out WF (W.heap.size) SA sc A' n' c' l' ls _ _ _ _ _ _ _ _ _ _ _ (Lib.hid BF) HQ1 hn hc1 hc2 (Lib.hid (((HW.out.onlyN OF (by first | exact Or.inl HCS.out | exact Or.inr (by rw [HGG.out]; exact Nat.le_refl _))).more (by rw [OF.2]; first | exact Nat.le_refl _ | (have h1 := HD.out.lt; have h2 := HGG.out; omega))).less hlo)) HLS (Lib.hid (((HSD.out.onlyN OF (by first | exact Or.inl HCS.out | exact Or.inr (by rw [HGG.out]; exact Nat.le_refl _))).more (by rw [OF.2]; first | exact Nat.le_refl _ | (have h1 := HD.out.lt; have h2 := HGG.out; omega))).less hlo)) (Lib.hid HF)
end Go.Proofs.Ytahbecinkciahaa
/- Layer 32, StreamOnce: what Receive leaves in the queue, in plain words. -/
namespace Go.Proofs.Ytahbecinkciahaa
open Go.RowKit
set_option linter.unusedVariables false
set_option linter.unusedSimpArgs false
theorem meas_q (s : Jb.Jt) (m : Jb.Md) : (Jb.meas s m).q = s.q := rfl
theorem put0_mem (s : Jb.Jt) (m : Jb.Md) : ∀ a ∈ (Jb.put0 s m).1.q, a ∈ s.q ∨ a.m = m := by
  intro a ha
  unfold Jb.put0 at ha
  split at ha
  · exact .inl ha
  split at ha
  · exact .inl ha
  split at ha
  · exact .inl ha
  simp only at ha
  split at ha
  · exact .inl ha
  split at ha
  · exact .inl ha
  · rcases List.mem_append.1 ha with h | h
    · exact .inl ((List.takeWhile_sublist _).subset h)
    · rcases List.mem_cons.1 h with h | h
      · exact .inr (by rw [h])
      · exact .inl ((List.dropWhile_sublist _).subset h)
theorem run_mem (s : Jb.Jt) (now : Int) : ∀ a ∈ (Jb.run s now).1.q, a ∈ s.q := by
  intro a ha
  unfold Jb.run at ha
  split at ha
  · exact (Jb.left_sub _ s.q).subset ha
  · cases ha
theorem put_mem (s : Jb.Jt) (now : Int) (m : Jb.Md) : ∀ a ∈ (Jb.put s now m).1.q, a ∈ s.q ∨ a.m = m := by
  intro a ha
  unfold Jb.put at ha
  split at ha
  · rcases put0_mem _ m a ha with h | h
    · exact .inl ((Jb.left_sub _ s.q).subset h)
    · exact .inr h
  · cases ha
theorem recv0_mem (p : Sb.Pt) (now : Int) (x : Sb.Arr) : ∀ a ∈ (Sb.recv0 p now x).1.jt.q, a ∈ p.jt.q ∨ (a.m.ty = x.ty ∧ a.m.pl = x.pl) := by
  intro a ha
  unfold Sb.recv0 at ha
  split at ha
  · exact .inl (run_mem _ _ a ha)
  simp only at ha
  split at ha
  · exact .inl (run_mem _ _ a ha)
  split at ha
  · exact .inl (run_mem _ _ a ha)
  · rcases put_mem _ _ _ a ha with h | h
    · exact .inl h
    · exact .inr (by rw [h]; exact ⟨rfl, rfl⟩)
/-- Receive of speech or noise, in the words of the plain law -/
theorem Receive_med0 {w : World} {p : Sb.Pt} {A : Option Addr} {l : List TW} {n c : Nat} {x : Rx} {now : Int} {X : Array Value} (C : RC w p A l n c x now) (hw : p.wf) (hX : X = PA p A n c) (hc : Sb.chkT p now = 0) (hk : speechB x.ty = true ∨ x.ty = 13) (hF : (Pk.follow p.tk x.sq).2.2 = true) (hJ : (Jb.put p.jt now ⟨(Pk.follow p.tk x.sq).2.1, Sb.time p x.arr, x.mrk, x.ty, x.pl⟩).2.2.2 = 0) : Calls Try.prog 12 #[.agg X, .int .i64 now, .agg x.row] w (RecvR (Sb.recv0 p now x.arr) w) := by
  have hkn : ¬Sb.known x.arr = false := by
    unfold Sb.known
    rcases hk with e | e
    · rw [show x.arr.ty = x.ty from rfl, e]; simp
    · rw [show x.arr.ty = x.ty from rfl, e]; simp
  have h101 : ¬x.ty = 101 := by rcases hk with h | h; rcases speechB_iff.1 h with h | h | h <;> omega; omega
  have e : Sb.recv0 p now x.arr = ({ p with tk := (Pk.follow p.tk x.sq).1, ht := if p.tk.on = false ∨ p.ht < Sb.time p x.arr then Sb.time p x.arr else p.ht, st := Rep.arrive p.st (Pk.follow p.tk x.sq).2.1 (8 * now) (Sb.time p x.arr), jt := (Jb.put p.jt now ⟨(Pk.follow p.tk x.sq).2.1, Sb.time p x.arr, x.mrk, x.ty, x.pl⟩).1, seed := (Sb.sounds p.seed (Jb.put p.jt now ⟨(Pk.follow p.tk x.sq).2.1, Sb.time p x.arr, x.mrk, x.ty, x.pl⟩).2.1).1 }, (Jb.put p.jt now ⟨(Pk.follow p.tk x.sq).2.1, Sb.time p x.arr, x.mrk, x.ty, x.pl⟩).2.2.1, (Sb.sounds p.seed (Jb.put p.jt now ⟨(Pk.follow p.tk x.sq).2.1, Sb.time p x.arr, x.mrk, x.ty, x.pl⟩).2.1).2) := by
    unfold Sb.recv0
    rw [if_neg hkn]
    simp only
    rw [if_neg (by rw [show x.arr.sq = x.sq from rfl, hF]; decide), if_neg (show ¬x.arr.ty = 101 from h101)]
    rfl
  rw [e]
  obtain ⟨f1, f2, f3⟩ : ∃ F : Pk.Tr × Int × Bool, F = Pk.follow p.tk x.sq := ⟨_, rfl⟩
  refine Receive_med C hw hX hc hk _ _ (Sb.time p x.arr) (by rw [← hF]) rfl _ _ _ ?_
  rw [← hJ]
theorem ok_i64 {s : Jb.Jt} (h : s.ok) : ∀ a ∈ s.q, I64 a.m.sq := fun a ha => by
  have h1 := ((Jb.okQ_iff _ _ _).1 h.2.2.2.2).2.1 a ha
  have h2 := h1.1.1
  unfold I64
  omega
theorem lastS_take (z : Int) (l : List Sb.Sd) (j : Nat) (d : Sb.Sd) (h : l[j]? = some d) : Sb.lastS z (l.take (j + 1)) = d.at_ := by
  rw [Sb.take_snoc h]
  unfold Sb.lastS
  rw [List.foldl_append]; rfl
theorem lastS_le (z : Int) (l : List Sb.Sd) (h : ∀ d ∈ l, z ≤ d.at_) (hp : l.Pairwise (fun a b => a.at_ ≤ b.at_)) (j : Nat) (d : Sb.Sd) (hd : l[j]? = some d) : Sb.lastS z (l.take j) ≤ d.at_ := by
  cases j with
  | zero => simpa [Sb.lastS] using h d (List.mem_of_getElem? hd)
  | succ j =>
    have hlt : j + 1 < l.length := (List.getElem?_eq_some_iff.1 hd).1
    have h1 : l[j]? = some (l[j]'(by omega)) := List.getElem?_eq_getElem (by omega)
    rw [lastS_take z l j _ h1]
    have h2 := List.pairwise_iff_getElem.1 hp j (j + 1) (by omega) hlt (by omega)
    have h3 : l[j + 1] = d := (List.getElem?_eq_some_iff.1 hd).2
    rw [← h3]; exact h2
end Go.Proofs.Ytahbecinkciahaa
/- Opening an argument that is a slice of structs, or a slice of slices of integers. Over any program. -/
namespace Go.Proofs.Ytahbecinkciahaa
open Go.ChangeShapes Go.WideShapes Go.ChangeAt Go.RowKit Go.Deep
set_option linter.unusedVariables false
section
variable {H : Type} {enc : TypeId × Value → H} {P : Program} {w : World} {r : Reach} {b0 base : Nat} {spare : Nat → Bool} {held : Bool}
/-- AN ARGUMENT THAT IS A SLICE of elements whose cells are known. -/
theorem open_rows {α : Type} {row : α → List Value} {ok : α → Prop} {t e : TypeId} {v : Value} {size : Nat} {d : DataW H} {p : List MemPlace} (ht : P.underlying t = some (.slice e)) (hsz : P.cellsOf e = size) (h0 : 0 < size)
    (hv : Value.okWide P w r b0 t v) (h : DataW.Trod enc P w base spare held t v d p) (hopen : ∀ n cs x, DataW.trod enc P w base spare held n e cs = some x → ∃ a, cs = row a ∧ ok a) :
    ∃ (A : Option Addr) (l : List α) (cap : Nat), v = .slice A l.length cap ∧ l.length ≤ cap ∧ cap ≤ maxLen ∧ RowsAt w w.heap.size size row A l ∧ ∀ a ∈ l, ok a := by
  obtain ⟨A, len, cap, rfl⟩ := okWide_slice ht hv
  obtain ⟨n, h⟩ := h
  exact Leaf.rows ⟨n, _, h⟩ ht hsz h0 hopen
/-- a slice of integers as an element -/
structure TInts where
  A : Option Addr
  zs : List Int
  cap : Nat
def TInts.row (a : TInts) : List Value := [.slice a.A a.zs.length a.cap]
def TInts.ok (k : IntKind) (w : World) (a : TInts) : Prop := a.zs.length ≤ a.cap ∧ a.cap ≤ maxLen ∧ IntsAt w w.heap.size k a.A a.zs ∧ ∀ z ∈ a.zs, (Lit.int k z).wf = true
theorem TInts.of_trod {t e : TypeId} {k : IntKind} (ht : P.underlying t = some (.slice e)) (he : P.underlying e = some (.int k)) (hc : P.cellsOf e = 1) (n : Nat) (cs : List Value) (x : DataW H × List MemPlace)
    (h : DataW.trod enc P w base spare held n t cs = some x) : ∃ a : TInts, cs = a.row ∧ a.ok k w := by
  have hv : ∃ v, cs = [v] := by
    rcases open_slice ht h with ⟨hcs, _⟩ | ⟨x, l, c, _, _, _, _, hcs, _⟩
    · exact ⟨_, hcs⟩
    · exact ⟨_, hcs⟩
  obtain ⟨v, rfl⟩ := hv
  obtain ⟨A, zs, cap, rfl, h1, h2, h3, h4⟩ := Leaf.ints (enc := enc) (spare := spare) (held := held) (base := base) ⟨n, x, h⟩ ht he hc
  exact ⟨⟨A, zs, cap⟩, rfl, h1, h2, h3, h4⟩
end
end Go.Proofs.Ytahbecinkciahaa
/- Layer 32: the types of the laws' arguments: a step of a speaker, a configuration. -/
namespace Go.Proofs.Ytahbecinkciahaa
open Go.ChangeShapes Go.WideShapes Go.ChangeAt Go.RowKit Go.Deep
set_option linter.unusedVariables false
set_option linter.unusedSimpArgs false
/-- a step of a speaker -/
structure TMv where
  loud : Int
  key : Int
  code : Int
  late : Int
  lost : Bool
def TMv.row (a : TMv) : List Value := [.int .u16 a.loud, .int .u8 a.key, .int .u8 a.code, .int .u8 a.late, .bool a.lost]
def TMv.ok (a : TMv) : Prop := (Lit.int .u16 a.loud).wf = true ∧ (Lit.int .u8 a.key).wf = true ∧ (Lit.int .u8 a.code).wf = true ∧ (Lit.int .u8 a.late).wf = true
set_option maxRecDepth 100000 in
set_option maxHeartbeats 12800000 in
theorem TMv.of_trod {H : Type} {enc : TypeId × Value → H} {w : World} {base : Nat} {spare : Nat → Bool} {held : Bool} (n : Nat) (cs : List Value) (x : DataW H × List MemPlace) (h : DataW.trod enc Try.prog w base spare held n 62 cs = some x) : ∃ a : TMv, cs = a.row ∧ a.ok := by
  obtain ⟨hl, hf⟩ := flat_trod 12 n 62 [24, 5, 5, 5, 4] cs x (by kernel_rfl) h
  obtain ⟨c0, h0, l0⟩ := hf 0 _ rfl
  obtain ⟨z0, rfl, w0⟩ := l0.int Try.underlying24
  obtain ⟨c1, h1, l1⟩ := hf 1 _ rfl
  obtain ⟨z1, rfl, w1⟩ := l1.int Try.underlying5
  obtain ⟨c2, h2, l2⟩ := hf 2 _ rfl
  obtain ⟨z2, rfl, w2⟩ := l2.int Try.underlying5
  obtain ⟨c3, h3, l3⟩ := hf 3 _ rfl
  obtain ⟨z3, rfl, w3⟩ := l3.int Try.underlying5
  obtain ⟨c4, h4, l4⟩ := hf 4 _ rfl
  obtain ⟨z4, rfl⟩ := l4.bool Try.underlying4
  exact ⟨⟨z0, z1, z2, z3, z4⟩, AllAt.eq ⟨h0, h1, h2, h3, h4, trivial⟩ hl, w0, w1, w2, w3⟩
set_option maxRecDepth 100000 in
set_option maxHeartbeats 12800000 in
theorem TMv.open_ {H : Type} {enc : TypeId × Value → H} {w : World} {r : Reach} {b0 base : Nat} {spare : Nat → Bool} {held : Bool} {v : Value} {d : DataW H} {p : List MemPlace} (hv : Value.okWide Try.prog w r b0 62 v) (h : DataW.Trod enc Try.prog w base spare held 62 v d p) : ∃ a : TMv, v = .agg a.row.toArray ∧ a.ok := by
  obtain ⟨cs, rfl, _⟩ := okWide_struct Try.underlying62 hv
  obtain ⟨n, h⟩ := h
  obtain ⟨a, ha, hok⟩ := TMv.of_trod n _ _ h
  refine ⟨a, ?_, hok⟩
  have : cs.toList = a.row := by simpa [Value.cells] using ha
  rw [← this]
/-- a configuration -/
structure TCf where
  least : Int
  most : Int
def TCf.row (a : TCf) : List Value := [.int .i64 a.least, .int .i64 a.most]
def TCf.ok (a : TCf) : Prop := (Lit.int .i64 a.least).wf = true ∧ (Lit.int .i64 a.most).wf = true
set_option maxRecDepth 100000 in
set_option maxHeartbeats 12800000 in
theorem TCf.of_trod {H : Type} {enc : TypeId × Value → H} {w : World} {base : Nat} {spare : Nat → Bool} {held : Bool} (n : Nat) (cs : List Value) (x : DataW H × List MemPlace) (h : DataW.trod enc Try.prog w base spare held n 32 cs = some x) : ∃ a : TCf, cs = a.row ∧ a.ok := by
  obtain ⟨hl, hf⟩ := flat_trod 12 n 32 [3, 3] cs x (by kernel_rfl) h
  obtain ⟨c0, h0, l0⟩ := hf 0 _ rfl
  obtain ⟨z0, rfl, w0⟩ := l0.int Try.underlying3
  obtain ⟨c1, h1, l1⟩ := hf 1 _ rfl
  obtain ⟨z1, rfl, w1⟩ := l1.int Try.underlying3
  exact ⟨⟨z0, z1⟩, AllAt.eq ⟨h0, h1, trivial⟩ hl, w0, w1⟩
set_option maxRecDepth 100000 in
set_option maxHeartbeats 12800000 in
theorem TCf.open_ {H : Type} {enc : TypeId × Value → H} {w : World} {r : Reach} {b0 base : Nat} {spare : Nat → Bool} {held : Bool} {v : Value} {d : DataW H} {p : List MemPlace} (hv : Value.okWide Try.prog w r b0 32 v) (h : DataW.Trod enc Try.prog w base spare held 32 v d p) : ∃ a : TCf, v = .agg a.row.toArray ∧ a.ok := by
  obtain ⟨cs, rfl, _⟩ := okWide_struct Try.underlying32 hv
  obtain ⟨n, h⟩ := h
  obtain ⟨a, ha, hok⟩ := TCf.of_trod n _ _ h
  refine ⟨a, ?_, hok⟩
  have : cs.toList = a.row := by simpa [Value.cells] using ha
  rw [← this]
end Go.Proofs.Ytahbecinkciahaa
/- Layer 32: the law StreamOnce. -/
namespace Go.Proofs.Ytahbecinkciahaa
open Go.RowKit
set_option linter.unusedVariables false
set_option linter.unusedSimpArgs false
attribute [local go_sem ↓] run_min_plain run_max_plain
attribute [local go_sem] setCell_drewN alloc_drewN
theorem wfu8 {z : Int} (h : (Lit.int .u8 z).wf = true) : 0 ≤ z ∧ z ≤ 255 := by simp [Lit.wf, IntKind.min, IntKind.max, IntKind.signed, IntKind.bits] at h; omega
theorem wfu16 {z : Int} (h : (Lit.int .u16 z).wf = true) : 0 ≤ z ∧ z ≤ 65535 := by simp [Lit.wf, IntKind.min, IntKind.max, IntKind.signed, IntKind.bits] at h; omega
theorem rowsMv {w : World} {n : Nat} {A : Option Addr} {l : List TMv} (h : RowsAt w n 5 TMv.row A l) {k : Nat} {a : TMv} (ha : l[k]? = some a) : ∃ b off, A = some ⟨b, off, none⟩ ∧ b < n ∧ w.cell? ⟨b, off + k * 5, none⟩ = some (.int .u16 a.loud) ∧ w.cell? ⟨b, off + k * 5 + 1, none⟩ = some (.int .u8 a.key) ∧ w.cell? ⟨b, off + k * 5 + 2, none⟩ = some (.int .u8 a.code) ∧ w.cell? ⟨b, off + k * 5 + 3, none⟩ = some (.int .u8 a.late) ∧ w.cell? ⟨b, off + k * 5 + 4, none⟩ = some (.bool a.lost) := by
  obtain ⟨b, off, rfl, hb, hc⟩ := h (by have := (List.getElem?_eq_some_iff.1 ha).1; omega)
  exact ⟨b, off, rfl, hb, hc k a ha 0 _ rfl, hc k a ha 1 _ rfl, hc k a ha 2 _ rfl, hc k a ha 3 _ rfl, hc k a ha 4 _ rfl⟩
/-- Send at a speaker of the kind -/
theorem on_send {k : Int} {p : Sb.Pt} {i many : Nat} (h : Sb.SpkI k p i many) (A : Option Addr) (c : Nat) (hcm : c ≤ maxLen) (V : World) (ZA : Option Addr) (zs : List Int) (zc : Nat) (hzl : zs.length = 160) (hz : Within (-32768) 32767 zs) (hZ : IntsAt V V.heap.size .i16 ZA zs) : Calls Try.prog 10 #[.agg (PA p A 0 c), .slice ZA 160 zc] V (SendR (Sb.send0 p zs) V) :=
  Send_off (l := []) (n := 0) ⟨h.wf, h.jq.symm, rfl, by omega, by omega, hcm, ⟨fun h0 => absurd h0 (by simp), fun _ h => by cases h⟩, (fun _ h => by cases h), (fun _ h => by cases h), hZ, hz, hzl, h.valid⟩ rfl (by rw [h.tn]; rfl) (by rw [h.tn]; rfl)
theorem send0_q (p : Sb.Pt) (zs : List Int) : (Sb.send0 p zs).1.jt = p.jt := by
  unfold Sb.send0
  split
  · rfl
  split
  · split <;> rfl
  · rfl
/-- the call of Receive at a listener of the kind -/
theorem on_recv {u : Sb.Pt} {i many taken : Nat} {now last : Int} (h : Sb.LisI u i now last many taken) (hO : ∀ a ∈ u.jt.q, OkW a) (hi : i < 60) (k : Sb.Pkt) (late : Int) (t0 : 0 ≤ late) (t1 : late ≤ 255) (sq : Nat) (hsq : sq < 60) (e1 : k.sq = (sq : Int)) (ti : Nat) (hti : ti ≤ 60) (e2 : k.ti = 160 * (ti : Int)) (hty : speechB k.ty = true ∨ k.ty = 13) (hpl : k.pl.length ≤ 1500) (hpb : ∀ z ∈ k.pl, 0 ≤ z ∧ z ≤ 255) (A : Option Addr) (l : List TW) (n c : Nat) (W : World) (hq : l.map TW.w = u.jt.q) (hn : l.length = n) (hcap : n ≤ c) (hcm : c ≤ maxLen) (hA : Wts W W.heap.size A l) (B : Option Addr) (bc : Nat) (hI : IntsAt W W.heap.size .u8 B k.pl) :
    ∃ (v : Int) (u' : Sb.Pt) (sds : List Sb.Sd), Sb.LisI u' (i + 1) (now + late) (Sb.lastS last sds) (many + sds.length) (taken + if v = 1 then 1 else 0) ∧ (∀ a ∈ u'.jt.q, OkW a) ∧ (∀ d ∈ sds, d.ks = [] ∧ last ≤ d.at_ ∧ d.at_ ≤ now + late) ∧ sds.Pairwise (fun a b => a.at_ ≤ b.at_) ∧
      ∀ V : World, Below W.heap.size W V → Calls Try.prog 12 #[.agg (PA u A n c), .int .i64 (now + late), .agg #[.bool k.mrk, .int .u8 k.ty, .int .u16 k.sq, .int .u32 k.ti, .int .u32 k.src, .slice none 0 0, .bool false, .int .u16 0, .slice none 0 0, .slice B k.pl.length bc, .int .i64 0]] V (RecvR (u', v, sds) V) := by
  have n1 := h.n1
  have n2 := h.n2
  obtain ⟨m, u', v, sds, tr, hf, ht, hm, he, hr, hL, hall, hpw⟩ := h.recv hi ⟨k.mrk, k.ty, k.sq, k.ti, k.pl⟩ late t0 t1 (by show 0 ≤ k.sq; omega) (by show k.sq < 60; omega) (by show 0 ≤ k.ti; omega) (by show k.ti ≤ 9600; omega) hty hpl
  have hk255 : 0 ≤ k.ty ∧ k.ty ≤ 255 := by rcases hty with e | e; exact Sb.sp_bd e; omega
  refine ⟨v, u', sds, hL, fun a ha => ?_, hall, hpw, fun V hb => ?_⟩
  · have h1 := recv0_mem u (now + late) ⟨k.mrk, k.ty, k.sq, k.ti, k.pl⟩ a (by rw [hr]; exact ha)
    rcases h1 with h1 | ⟨e3, e4⟩
    · exact hO a h1
    · refine ⟨by rw [e3]; exact hk255.1, by rw [e3]; exact hk255.2, by rw [e4]; exact hpb, by rw [e4]; show k.pl.length ≤ 8000; omega⟩
  · have hqn : n ≤ 200 := by
      have := ((Jb.okQ_iff _ _ _).1 h.sm.ok.2.2.2.2).1
      rw [← hq, List.length_map] at this
      omega
    have C : RC V u A l n c ⟨k.mrk, k.ty, k.sq, k.ti, k.src, none, 0, 0, false, 0, none, 0, 0, B, k.pl, bc, 0⟩ (now + late) := ⟨hq, hn, by omega, hcap, hcm, hA.later hb, fun a ha => ok_i64 h.sm.ok a.w (by rw [← hq]; exact List.mem_map_of_mem ha), hO, h.wf.seed.1, h.wf.seed.2, hk255.1, hk255.2, by show 0 ≤ k.sq; omega, by show k.sq ≤ 65535; omega, by show 0 ≤ k.ti; omega, by show k.ti ≤ 4294967295; omega, hpl, hI.later hb, by omega, by omega⟩
    have hR := Receive_med0 C h.wf rfl (h.chk _ (by omega) (by omega)) hty (by show (Pk.follow u.tk k.sq).2.2 = true; rw [hf]) (by
      show (Jb.put u.jt (now + late) ⟨(Pk.follow u.tk k.sq).2.1, Sb.time u ⟨k.mrk, k.ty, k.sq, k.ti, k.pl⟩, k.mrk, k.ty, k.pl⟩).2.2.2 = 0
      rw [hf, ht]
      rw [hm] at he
      exact he)
    change Calls _ _ _ _ (RecvR (Sb.recv0 u (now + late) ⟨k.mrk, k.ty, k.sq, k.ti, k.pl⟩) V) at hR
    rw [hr] at hR
    exact hR
set_option maxRecDepth 100000 in
set_option maxHeartbeats 12800000 in
theorem on_walk (w : World) (k : Int) (w0 : (Lit.int .u8 k).wf = true) (cf : TCf) (AL : Option Addr) (L : List TMv) (cL : Nat) (hcL : L.length ≤ cL) (hmL : cL ≤ maxLen) (hRL : RowsAt w w.heap.size 5 TMv.row AL L) (hok : ∀ x ∈ L, x.ok) : Calls Try.prog 4 #[.int .u8 k, .agg cf.row.toArray, .slice AL L.length cL] w fun e w' => e = .returned (.bool true) ∧ Below w.heap.size w w' := by
  obtain ⟨ls, mo⟩ := cf
  change Calls Try.prog 4 #[.int .u8 k, .agg #[.int .i64 ls, .int .i64 mo], .slice AL L.length cL] w _
  obtain ⟨k0, k1⟩ := wfu8 w0
  have kN := Lib.hid fun W => New_any k 7 ls mo k0 k1 W
  unfold NewP at kN
  have HRL := Lib.hid hRL
  have HOKL := Lib.hid hok
  have hlc : L.length ≤ maxLen := Nat.le_trans hcL hmL
  have BC := Lib.hid (Blk.new w 32 #[.int .i64 ls, .int .i64 mo])
  have U0 := Lib.hid ((Bel.refl w).push (.cells #[.int .i64 ls, .int .i64 mo] 32))
  clear hRL hok w0
  go_enter Try.func4, Try.ntmps4
  go_upto_region 1 with fail
  change Code.wp _ _ _ _ (w.alloc (Obj.cells #[.int .i64 ls, .int .i64 mo] 32))
  obtain ⟨W, hW⟩ : ∃ W, W = w.alloc (Obj.cells #[.int .i64 ls, .int .i64 mo] 32) := ⟨_, rfl⟩
  rw [← hW] at BC U0 ⊢
  clear hW
  have c0 := BC.out.at 0 _ rfl
  have c1 := BC.out.at 1 _ rfl
  go_wp2_with fail
  refine (kN.out _).mono ?_
  rintro e w2 ⟨rfl, hb1⟩
  replace U0 := Lib.hid (U0.out.later hb1)
  clear hb1 c0 c1 BC
  obtain ⟨p0, hp0⟩ : ∃ p, p = (Sb.new k 7 ls mo).1 := ⟨_, rfl⟩
  obtain ⟨er, her⟩ : ∃ e, e = (Sb.new k 7 ls mo).2 := ⟨_, rfl⟩
  rw [← hp0, ← her]
  have HP0 := Lib.hid hp0
  have HER := Lib.hid her
  clear hp0 her
  have hs2 := U0.out.size
  have BZ : Blk (w2.alloc (Obj.cells #[.int .u8 0, .int .u32 0, .int .u16 0, .int .u32 0, .bool false, .int .i64 0, .int .i64 0, .int .i64 0, .bool false, .int .u8 0, .int .u8 0, .int .u32 0, .int .i64 0, .int .i64 0, .int .i64 0, .int .i64 0, .int .i64 0, .bool false, .int .i64 0, .int .i64 0, .int .i64 0, .int .i64 0, .int .i64 0, .int .i64 0, .slice none 0 0, .int .i64 0, .int .i64 0, .int .i64 0, .bool false, .int .i64 0, .int .i64 0, .int .i64 0, .bool false, .int .i64 0, .int .i64 0, .int .i64 0, .int .i64 0, .int .i64 0, .int .i64 0, .int .i64 0, .bool false, .int .u32 0, .int .u8 0, .int .i64 0, .bool false, .int .u32 0, .int .u32 0, .int .u32 0] 43)) w2.heap.size 43 (PL Sb.Pt.zero none 0 0).toArray := Blk.new _ _ _
  go_upto_region 2 with (first | (refine wpList_store_part rfl 43 (.tmp 7) (.tmp 29) rfl (w2.heap.size) 0 rfl 43 (PL Sb.Pt.zero none 0 0) BZ (PL p0 none 0 0) rfl info_port (show 0 + 48 ≤ 48 by decide) rfl (PL p0 none 0 0) rfl ?_; intro WA BA OA) | fail)
  have UA := Lib.hid (OA.bel (U0.out.push (Obj.cells #[.int .u8 0, .int .u32 0, .int .u16 0, .int .u32 0, .bool false, .int .i64 0, .int .i64 0, .int .i64 0, .bool false, .int .u8 0, .int .u8 0, .int .u32 0, .int .i64 0, .int .i64 0, .int .i64 0, .int .i64 0, .int .i64 0, .bool false, .int .i64 0, .int .i64 0, .int .i64 0, .int .i64 0, .int .i64 0, .int .i64 0, .slice none 0 0, .int .i64 0, .int .i64 0, .int .i64 0, .bool false, .int .i64 0, .int .i64 0, .int .i64 0, .bool false, .int .i64 0, .int .i64 0, .int .i64 0, .int .i64 0, .int .i64 0, .int .i64 0, .int .i64 0, .bool false, .int .u32 0, .int .u8 0, .int .i64 0, .bool false, .int .u32 0, .int .u32 0, .int .u32 0] 43)) hs2)
  have HBA := Lib.hid (show PB WA w2.heap.size p0 none 0 0 from BA)
  obtain ⟨ga, hga⟩ : ∃ g, g = w2.heap.size := ⟨_, rfl⟩
  have hwa : w.heap.size ≤ ga := by omega
  rw [← hga] at HBA ⊢
  clear BZ BA OA hga U0 hs2
  by_cases hcv : speechB k = true ∧ Jb.cfg ls mo
  rotate_left
  · have he : ¬er = 0 := by rw [HER.out]; exact (Sb.new_bad hcv).2
    clear hcv
    go_wp2_with fail
    refine (lives_any _).mono ?_
    rintro e wv ⟨rfl, hbv⟩
    have UF := UA.out.later hbv
    go_wp2_with fail
    go_ret
    exact ⟨rfl, UF⟩
  obtain ⟨hs0, he0⟩ := Sb.SpkI.start hcv.1 hcv.2
  have hl0 := Sb.LisI.start hcv.1 hcv.2
  rw [← HP0.out] at hs0 hl0
  have HS0 := Lib.hid hs0
  have HL0 := Lib.hid hl0
  have hO0 : ∀ a ∈ p0.jt.q, OkW a := by rw [hs0.jq]; intro a ha; cases ha
  have HO0 := Lib.hid hO0
  have HJ0 := Lib.hid hs0.jq
  obtain rfl : er = 0 := HER.out.trans he0
  clear hs0 hl0 he0 hcv hO0
  have hgal := Blk.lt HBA.out
  have BZ : Blk (WA.alloc (Obj.cells #[.int .u8 0, .int .u32 0, .int .u16 0, .int .u32 0, .bool false, .int .i64 0, .int .i64 0, .int .i64 0, .bool false, .int .u8 0, .int .u8 0, .int .u32 0, .int .i64 0, .int .i64 0, .int .i64 0, .int .i64 0, .int .i64 0, .bool false, .int .i64 0, .int .i64 0, .int .i64 0, .int .i64 0, .int .i64 0, .int .i64 0, .slice none 0 0, .int .i64 0, .int .i64 0, .int .i64 0, .bool false, .int .i64 0, .int .i64 0, .int .i64 0, .bool false, .int .i64 0, .int .i64 0, .int .i64 0, .int .i64 0, .int .i64 0, .int .i64 0, .int .i64 0, .bool false, .int .u32 0, .int .u8 0, .int .i64 0, .bool false, .int .u32 0, .int .u32 0, .int .u32 0] 43)) WA.heap.size 43 (PL Sb.Pt.zero none 0 0).toArray := Blk.new _ _ _
  have HBA2 := Lib.hid (PB.push HBA.out (Obj.cells #[.int .u8 0, .int .u32 0, .int .u16 0, .int .u32 0, .bool false, .int .i64 0, .int .i64 0, .int .i64 0, .bool false, .int .u8 0, .int .u8 0, .int .u32 0, .int .i64 0, .int .i64 0, .int .i64 0, .int .i64 0, .int .i64 0, .bool false, .int .i64 0, .int .i64 0, .int .i64 0, .int .i64 0, .int .i64 0, .int .i64 0, .slice none 0 0, .int .i64 0, .int .i64 0, .int .i64 0, .bool false, .int .i64 0, .int .i64 0, .int .i64 0, .bool false, .int .i64 0, .int .i64 0, .int .i64 0, .int .i64 0, .int .i64 0, .int .i64 0, .int .i64 0, .bool false, .int .u32 0, .int .u8 0, .int .i64 0, .bool false, .int .u32 0, .int .u32 0, .int .u32 0] 43))
  have hwA := UA.out.size
  replace UA := Lib.hid (UA.out.push (Obj.cells #[.int .u8 0, .int .u32 0, .int .u16 0, .int .u32 0, .bool false, .int .i64 0, .int .i64 0, .int .i64 0, .bool false, .int .u8 0, .int .u8 0, .int .u32 0, .int .i64 0, .int .i64 0, .int .i64 0, .int .i64 0, .int .i64 0, .bool false, .int .i64 0, .int .i64 0, .int .i64 0, .int .i64 0, .int .i64 0, .int .i64 0, .slice none 0 0, .int .i64 0, .int .i64 0, .int .i64 0, .bool false, .int .i64 0, .int .i64 0, .int .i64 0, .bool false, .int .i64 0, .int .i64 0, .int .i64 0, .int .i64 0, .int .i64 0, .int .i64 0, .int .i64 0, .bool false, .int .u32 0, .int .u8 0, .int .i64 0, .bool false, .int .u32 0, .int .u32 0, .int .u32 0] 43))
  go_upto_region 5 with (first | (refine wpList_load_part rfl 43 (.tmp 7) rfl (ga) 0 rfl 43 (PL p0 none 0 0) HBA.out 48 _ Try.underlying43 info_port (show 0 + 48 ≤ 48 by decide) (PA p0 none 0 0) (by rfl) rfl ?_) | (refine wpList_store_part rfl 43 (.tmp 9) (.tmp 34) rfl (WA.heap.size) 0 rfl 43 (PL Sb.Pt.zero none 0 0) BZ (PL p0 none 0 0) rfl info_port (show 0 + 48 ≤ 48 by decide) rfl (PL p0 none 0 0) rfl ?_; intro WB BB OB) | fail)
  replace HBA := Lib.hid (OB.blk HBA2.out (by omega))
  have UB := Lib.hid (OB.bel UA.out hwA)
  have HBU := Lib.hid (show PB WB WA.heap.size p0 none 0 0 from BB)
  obtain ⟨gu, hgu⟩ : ∃ g, g = WA.heap.size := ⟨_, rfl⟩
  have hwu : w.heap.size ≤ gu := by omega
  have hau : ga < gu := by omega
  rw [← hgu] at HBU ⊢
  clear BZ BB OB hgu UA hwA hgal HBA2
  go_wp2_with fail
  go_loopg [10, 11, 12, 13, 14] 60 (fun gk s10 s11 s12 s13 s14 wr => ∃ (i many taken sq : Nat) (now last : Int) (p u : Sb.Pt) (A1 : Option Addr) (c1 : Nat) (A2 : Option Addr) (n2 c2 : Nat) (l2 : List TW), gk + i = 60 ∧ s10 = .int .i64 now ∧ s11 = .int .i64 last ∧ s12 = .int .i64 many ∧ s13 = .int .i64 taken ∧ s14 = .int .i64 i ∧ i ≤ L.length ∧ Hid (Sb.SpkI k p i sq) ∧ Hid (Sb.LisI u i now last many taken) ∧ Hid (∀ a ∈ u.jt.q, OkW a) ∧ Hid (PB wr ga p A1 0 c1) ∧ c1 ≤ maxLen ∧ Hid (PB wr gu u A2 n2 c2) ∧ Hid (l2.map TW.w = u.jt.q) ∧ l2.length = n2 ∧ n2 ≤ c2 ∧ c2 ≤ maxLen ∧ Hid (WtsIn wr (gu + 1) wr.heap.size A2 l2) ∧ Hid (Bel w wr))
  case atStart => exact ⟨0, 0, 0, 0, 1000, 0, p0, p0, none, 0, none, 0, 0, [], rfl, rfl, rfl, rfl, rfl, rfl, Nat.zero_le _, HS0, HL0, HO0, HBA, Nat.zero_le _, HBU, Lib.hid HJ0.out.symm, rfl, Nat.le_refl _, Nat.zero_le _, Lib.hid WtsIn.empty, UB⟩
  case round =>
    obtain ⟨i, many, taken, sq, now, last, p, u, A1, c1, A2, n2, c2, l2, hgk, rfl, rfl, rfl, rfl, rfl, hil, HS, HL, HO, HBA, hcm1, HBU, HQ, hn2, hcc2, hcm2, HW, U⟩ := hrel
    have hi0 : (0 : Int) ≤ (i : Int) := by omega
    have hi60 := HS.out.i60
    have hnow1 := HL.out.n1
    have hnow2 := HL.out.n2
    have hmany : many ≤ 12000 := by have h1 := HL.out.sm.played; have h2 := HL.out.pl; omega
    have htaken : taken ≤ 12200 := by have h1 := HL.out.tkn; have h2 := ((Jb.okQ_iff _ _ _).1 HL.out.sm.ok.2.2.2.2).1; omega
    by_cases hk : i < L.length ∧ i < 60
    rotate_left
    · have hk3 : ¬(i : Int) < (L.length : Int) ∨ ((i : Int) < (L.length : Int) ∧ ¬(i : Int) < 60) := by omega
      obtain ⟨d1, d2, d3⟩ := HL.out.done (by omega)
      have hqn : n2 ≤ 100000 := by
        have := ((Jb.okQ_iff _ _ _).1 HL.out.sm.ok.2.2.2.2).1
        rw [← HQ.out, List.length_map] at this
        omega
      have kP := Lib.hid fun (V : World) hV => Play_ok u HL.out.wf A2 l2 n2 c2 (PA u A2 n2 c2) rfl V HQ.out hn2 hqn hcc2 hcm2 hV (fun a ha => ok_i64 HL.out.sm.ok a.w (by rw [← HQ.out]; exact List.mem_map_of_mem ha)) (now + 200000) (HL.out.chk _ (by omega) (by omega)) HO.out
      unfold PlayV at kP
      generalize Sb.run u (now + 200000) = R at *
      obtain ⟨uf, sf⟩ := R
      simp only at d2 d3
      have HD2 := Lib.hid d2
      have HD3 := Lib.hid d3
      have hguw := Blk.lt HBU.out
      have hwr := U.out.size
      clear hk d1 d2 d3
      rcases hk3 with hk3 | ⟨hk3, hk4⟩
      all_goals
        go_upto_region 28 with fail
        go_wp2_with (first | (refine wpList_load_part rfl 43 (.tmp 9) rfl (gu) 0 rfl 43 (PL u A2 n2 c2) HBU.out 48 _ Try.underlying43 info_port (show 0 + 48 ≤ 48 by decide) (PA u A2 n2 c2) (by rfl) rfl ?_) | fail)
        refine (kP.out _ HW.out.rows).mono ?_
        rintro e w6 ⟨A6, n6, c6, l6, SA, sc, m6, lf, base, rfl, e1, e2, e3, e4, e5, e6, e7, e8, hb6⟩
        have hml : many + m6 = taken := by
          have h1 := congrArg List.length e6
          rw [List.length_map] at h1
          have h2 := HD2.out
          have h3 := e8.len
          omega
        replace U := Lib.hid (U.out.later hb6)
        replace HBU := Lib.hid (PB.later HBU.out hb6)
        clear e1 e5 e6 e8 hb6
        go_upto_region 29 with (first | (refine wpList_store_part rfl 43 (.tmp 9) (.tmp 140) rfl (gu) 0 rfl 43 (PL u A2 n2 c2) HBU.out (PL uf A6 n6 c6) rfl info_port (show 0 + 48 ≤ 48 by decide) rfl (PL uf A6 n6 c6) rfl ?_; intro WE BE OE) | fail)
        replace U := Lib.hid (OE.bel U.out hwu)
        have x27 : WE.cell? ⟨gu, 27, none⟩ = some (.int .i64 uf.jt.played) := PB.cell BE 27 _ rfl
        rw [HD3.out] at x27
        subst hml
        clear BE OE
        go_wp2_with fail
        refine (lives_any _).mono ?_
        rintro e wv ⟨rfl, hbv⟩
        have UF := U.out.later hbv
        go_wp2_with fail
        go_ret
        exact ⟨rfl, UF⟩
    obtain ⟨hk1, hk2⟩ := hk
    have hi1 : (i : Int) < (L.length : Int) := by omega
    have hi2 : (i : Int) < 60 := by omega
    obtain ⟨a, ha⟩ : ∃ a, L[i]? = some a := ⟨_, List.getElem?_eq_getElem hk1⟩
    obtain ⟨bL, oL, rfl, hLb, y0, y1, y2, y3, y4⟩ := rowsMv HRL.out ha
    have hwa9 := HOKL.out a (List.mem_of_getElem? ha)
    obtain ⟨loud, key, code, late, lost⟩ := a
    obtain ⟨v0, v1, v2, v3⟩ := hwa9
    simp only at y0 y1 y2 y3 y4 v0 v1 v2 v3
    obtain ⟨lz0, lz1⟩ := wfu16 v0
    obtain ⟨t0, t1⟩ := wfu8 v3
    clear ha v0 v1 v2 v3 y1 y2
    have x0 := (U.out.cell (p := ⟨bL, oL + i * 5, none⟩) hLb).trans y0
    have kS := Lib.hid fun (V : World) (ZA : Option Addr) (zs : List Int) (zc : Nat) hzl hz hZ => on_send HS.out A1 c1 hcm1 V ZA zs zc hzl hz hZ
    go_upto_region 9 with fail
    refine on9_wp ga bL oL L.length cL i hk1 (by omega) loud lz0 lz1 p A1 c1 wr x0 HBA.out (fun zs => by rw [send0_q]; exact HS.out.jq) kS.out ?_ ?_
    · intro _ _ _ _ _ h; exact h
    intro wx g3 KA kc ks A' c' zs u45 u46 u47 u48 u49 u50 u51 u52 u53 u54 u55 u56 u57 hzl HZ HB3 hc3 HK HP HN HBL
    have hwr := Blk.lt HBA.out
    have hwru := Blk.lt HBU.out
    replace U := Lib.hid (U.out.later HBL.out)
    replace HBA := Lib.hid (PB.later HBA.out HBL.out)
    replace HBU := Lib.hid (PB.later HBU.out HBL.out)
    replace HW := Lib.hid ((HW.out.below HBL.out (Nat.le_refl _)).more HBL.out.size)
    obtain ⟨mo9, m1, m2, m3, m4⟩ := HS.out.step zs hk2 hzl HZ.out
    have hkl : ks.length = mo9 := by have h1 := congrArg List.length HK.out; rw [List.length_map] at h1; exact h1.trans m1
    subst hkl
    have HM3 := Lib.hid m3
    have HM4 := Lib.hid m4
    obtain ⟨q, hq⟩ : ∃ q, q = (Sb.send0 p zs).1 := ⟨_, rfl⟩
    rw [← hq] at HB3 HM3
    clear HBL kS m1 m3 m4 hq HS x0 hzl HZ
    go_upto_region 13 with (first | (refine wpList_load_part rfl 43 (.tmp 15) rfl (g3) 0 rfl 43 (PL q A' 0 c') HB3.out 48 _ Try.underlying43 info_port (show 0 + 48 ≤ 48 by decide) (PA q A' 0 c') (by rfl) rfl ?_) | (refine wpList_store_part rfl 43 (.tmp 7) (.tmp 60) rfl (ga) 0 rfl 43 (PL p A1 0 c1) HBA.out (PL q A' 0 c') rfl info_port (show 0 + 48 ≤ 48 by decide) rfl (PL q A' 0 c') rfl ?_; intro WC BC OC) | fail)
    have hgu9 : gu < wr.heap.size := hwru
    replace U := Lib.hid (OC.bel U.out hwa)
    replace HBU := Lib.hid (OC.blk HBU.out (by omega))
    replace HW := Lib.hid ((HW.out.onlyN OC (Or.inl (by omega))).more (hi' := WC.heap.size) (by rw [OC.2]; exact Nat.le_refl _))
    replace HP := Lib.hid ((HP.out.onlyN HN.out OC (Or.inl (by omega))).more (m := WC.heap.size) (by rw [OC.2]; exact Nat.le_refl _))
    replace HBA := Lib.hid (show PB WC ga q A' 0 c' from BC)
    clear BC OC HB3
    have x3 := (U.out.cell (p := ⟨bL, oL + i * 5 + 3, none⟩) hLb).trans y3
    have x4 := (U.out.cell (p := ⟨bL, oL + i * 5 + 4, none⟩) hLb).trans y4
    have hcv : IntKind.i64.wrap late = late := by simp only [IntKind.wrap, IntKind.bits, IntKind.signed]; simp; omega
    clear y0 y3 y4
    go_upto_region 14 with fail
    clear x3
    by_cases hz : lost = true ∨ ks = []
    · have hsk := HL.out.skip late t0 t1
      have HSK := Lib.hid hsk
      have hcond : (lost || decide ((ks.length : Int) = 0)) = true := by
        rcases hz with rfl | rfl
        · rfl
        · simp
      clear hsk
      rcases hz with rfl | rfl
      all_goals clear hcond
      all_goals go_wp2_with fail
      all_goals
        go_roundg (gk - 1)
        case measure => omega
        case rel => exact ⟨i + 1, many, taken, sq + _, now + late, last, q, u, A', c', A2, n2, c2, l2, by omega, rfl, rfl, rfl, rfl, by go_num, by omega, HM3, HSK, HO, HBA, hc3, HBU, HQ, hn2, hcc2, hcm2, Lib.hid HW.out, U⟩
    obtain ⟨hz1, hz2⟩ := not_or.1 hz
    obtain rfl : lost = false := by simpa using hz1
    obtain ⟨a, rfl⟩ : ∃ a, ks = [a] := List.length_eq_one_iff.1 (by have : 0 < ks.length := List.length_pos_iff.2 hz2; omega)
    clear hz hz1 hz2
    obtain ⟨bK, oK, rfl, hlK, hcK⟩ := HP.out.1 (by simp)
    have hI9 := HP.out.2 _ (List.mem_singleton.2 rfl)
    have hm := HM4.out a.k (by rw [← HK.out]; simp)
    obtain ⟨kp, B9, bc9⟩ := a
    obtain ⟨f1, f2, f3, f4, f5⟩ := hm
    simp only at f1 f2 f3 f4 f5 hI9
    have cK := fun j v hv => hcK 0 _ rfl j v hv
    simp only [Nat.zero_mul, Nat.add_zero] at cK
    have z0 : WC.cell? ⟨bK, oK, none⟩ = some (.bool kp.mrk) := cK 0 _ rfl
    have z1 := cK 1 (.int .u8 kp.ty) rfl
    have z2 := cK 2 (.int .u16 kp.sq) rfl
    have z3 := cK 3 (.int .u32 kp.ti) rfl
    have z4 := cK 4 (.int .u32 kp.src) rfl
    have z5 := cK 5 (.slice none 0 0) rfl
    have z6 := cK 6 (.bool false) rfl
    have z7 := cK 7 (.int .u16 0) rfl
    have z8 := cK 8 (.slice none 0 0) rfl
    have z9 := cK 9 (.slice B9 kp.pl.length bc9) rfl
    have z10 := cK 10 (.int .i64 0) rfl
    clear cK hcK
    obtain ⟨v, u', sds, hL', hO', hall, hpw, kR⟩ := on_recv HL.out HO.out hk2 kp late t0 t1 sq (by have h1 := HM3.out.le; have h2 := HM3.out.i60; simp only [List.length_cons, List.length_nil] at h1; omega) f1 i (by omega) f2 f3 f4 f5 A2 l2 n2 c2 WC HQ.out hn2 hcc2 hcm2 HW.out.rows B9 bc9 hI9
    have HL' := Lib.hid hL'
    have hms : many + sds.length ≤ 12200 := by have h1 := hL'.sm.played; have h2 := hL'.pl; push_cast at h1; omega
    have HO' := Lib.hid hO'
    have HALL := Lib.hid hall
    have HPW := Lib.hid hpw
    have KR := Lib.hid kR
    clear hL' hO' hall hpw kR f1 f2 f3 f4 f5 hI9 HL HO HK HM4 HN
    go_upto_region 15 with fail
    clear x4
    try simp only [List.length_cons, List.length_nil, Nat.zero_add]
    refine on15_wp gu bK oK kc kp B9 bc9 (now + late) u A2 n2 c2 (u', v, sds) WC HBU.out z0 z1 z2 z3 z4 z5 z6 z7 z8 z9 z10 KR.out ?_ ?_
    · intro _ _ _ _ _ h; exact h
    clear z0 z1 z2 z3 z4 z5 z6 z7 z8 z9 z10 KR HW HQ
    intro wy g4 SA sc A4 n4 c4 l4 lsd u79 u80 u81 u82 u83 u84 u85 u86 u87 u88 u89 HB4 HQ4 hn4 hcc4 hcm4 HW4 HLS HSD HBL
    simp only at HB4 HQ4 HLS
    have hwc := Blk.lt HBA.out
    have hwcu := Blk.lt HBU.out
    replace U := Lib.hid (U.out.later HBL.out)
    replace HBA := Lib.hid (PB.later HBA.out HBL.out)
    replace HBU := Lib.hid (PB.later HBU.out HBL.out)
    have hsl : lsd.length = sds.length := by have h1 := congrArg List.length HLS.out; rw [List.length_map] at h1; exact h1
    clear HBL HP
    have hguw : gu < WC.heap.size := hwcu
    obtain ⟨W9, hW9⟩ : ∃ n, n = WC.heap.size := ⟨_, rfl⟩
    rw [← hW9] at HW4 HSD hguw hwc hwcu
    clear hW9
    obtain ⟨T9, hT9⟩ : ∃ t : Nat, t = taken + if v = 1 then 1 else 0 := ⟨_, rfl⟩
    rw [← hT9] at HL'
    by_cases hv1 : v = 1
    · obtain rfl : T9 = taken + 1 := by rw [hT9, if_pos hv1]
      subst hv1
      clear hT9
      go_upto_region 20 with fail
      go_wp2_with fail
      go_loop [11, 12, 22] (fun s11 s12 s22 => ∃ j : Nat, j ≤ sds.length ∧ s11 = .int .i64 (Sb.lastS last (sds.take j)) ∧ s12 = .int .i64 ((many : Int) + (j : Int)) ∧ s22 = .int .i64 j) (fun _ _ s22 => (sds.length - (intOf s22).toNat))
      case atStart => exact ⟨0, Nat.zero_le _, rfl, by go_num, rfl⟩
      case round =>
        obtain ⟨j, hj, rfl, rfl, rfl⟩ := hrel
        have hj0 : (0 : Int) ≤ (j : Int) := by omega
        by_cases hjl : j < sds.length
        · have hj1 : (j : Int) < (lsd.length : Int) := by omega
          obtain ⟨d, hd⟩ : ∃ d, lsd[j]? = some d := ⟨_, List.getElem?_eq_getElem (by omega)⟩
          have hds : sds[j]? = some d.s := by rw [← HLS.out, List.getElem?_map, hd]; rfl
          obtain ⟨bS, oS, rfl, hSb, q0, q1, q2⟩ := rowsSd HSD.out.rows.1 hd
          have ha1 := HALL.out d.s (List.mem_of_getElem? hds)
          have ha2 : Sb.lastS last (sds.take j) ≤ d.s.at_ := lastS_le last sds (fun x hx => (HALL.out x hx).2.1) HPW.out j d.s hds
          have ha3 := Lib.hid (lastS_take last sds j d.s hds)
          have ha4 := ha1.2.2
          obtain ⟨⟨dat, dz, dk⟩, dS, dc⟩ := d
          simp only at q0 q1 q2 ha2 ha3 ha4
          clear hd hds ha1 q1
          generalize Sb.lastS last (sds.take j) = la at ha2 ⊢
          have ha5 : ¬dat < la := by omega
          have ha6 : ¬now + late < dat := by omega
          go_wp2_with fail
          go_round
          case rel => exact ⟨j + 1, by omega, by rw [ha3.out], by go_num, by go_num⟩
          case measure => simp [intOf]; omega
        · obtain rfl : j = sds.length := by omega
          have hj1 : ¬(sds.length : Int) < (lsd.length : Int) := by omega
          rw [List.take_of_length_le (Nat.le_refl _)]
          go_upto_region 8 with (first | (refine wpList_load_part rfl 43 (.tmp 18) rfl (g4) 0 rfl 43 (PL u' A4 n4 c4) HB4.out 48 _ Try.underlying43 info_port (show 0 + 48 ≤ 48 by decide) (PA u' A4 n4 c4) (by rfl) rfl ?_) | (refine wpList_store_part rfl 43 (.tmp 9) (.tmp 134) rfl (gu) 0 rfl 43 (PL u A2 n2 c2) HBU.out (PL u' A4 n4 c4) rfl info_port (show 0 + 48 ≤ 48 by decide) rfl (PL u' A4 n4 c4) rfl ?_; intro WD BD OD) | fail)
          replace U := Lib.hid (OD.bel U.out hwu)
          replace HBA := Lib.hid (OD.blk HBA.out (by omega))
          have HW5 := Lib.hid (((HW4.out.onlyN OD (Or.inl (by omega))).more (hi' := WD.heap.size) (by rw [OD.2]; exact Nat.le_refl _)).less (lo' := gu + 1) (by omega))
          replace HBU := Lib.hid (show PB WD gu u' A4 n4 c4 from BD)
          clear BD OD HW4 HSD HB4
          go_wp2_with fail
          go_roundg (gk - 1)
          case measure => omega
          case rel => exact ⟨i + 1, many + sds.length, taken + 1, sq + 1, now + late, Sb.lastS last sds, q, u', A', c', A4, n4, c4, l4, by omega, rfl, rfl, by go_num, by go_num, by go_num, by omega, HM3, HL', HO', HBA, hc3, HBU, HQ4, hn4, hcc4, hcm4, HW5, U⟩
    · obtain rfl : taken = T9 := by rw [hT9, if_neg hv1]; rfl
      clear hT9
      go_upto_region 20 with fail
      go_wp2_with fail
      go_loop [11, 12, 22] (fun s11 s12 s22 => ∃ j : Nat, j ≤ sds.length ∧ s11 = .int .i64 (Sb.lastS last (sds.take j)) ∧ s12 = .int .i64 ((many : Int) + (j : Int)) ∧ s22 = .int .i64 j) (fun _ _ s22 => (sds.length - (intOf s22).toNat))
      case atStart => exact ⟨0, Nat.zero_le _, rfl, by go_num, rfl⟩
      case round =>
        obtain ⟨j, hj, rfl, rfl, rfl⟩ := hrel
        have hj0 : (0 : Int) ≤ (j : Int) := by omega
        by_cases hjl : j < sds.length
        · have hj1 : (j : Int) < (lsd.length : Int) := by omega
          obtain ⟨d, hd⟩ : ∃ d, lsd[j]? = some d := ⟨_, List.getElem?_eq_getElem (by omega)⟩
          have hds : sds[j]? = some d.s := by rw [← HLS.out, List.getElem?_map, hd]; rfl
          obtain ⟨bS, oS, rfl, hSb, q0, q1, q2⟩ := rowsSd HSD.out.rows.1 hd
          have ha1 := HALL.out d.s (List.mem_of_getElem? hds)
          have ha2 : Sb.lastS last (sds.take j) ≤ d.s.at_ := lastS_le last sds (fun x hx => (HALL.out x hx).2.1) HPW.out j d.s hds
          have ha3 := Lib.hid (lastS_take last sds j d.s hds)
          have ha4 := ha1.2.2
          obtain ⟨⟨dat, dz, dk⟩, dS, dc⟩ := d
          simp only at q0 q1 q2 ha2 ha3 ha4
          clear hd hds ha1 q1
          generalize Sb.lastS last (sds.take j) = la at ha2 ⊢
          have ha5 : ¬dat < la := by omega
          have ha6 : ¬now + late < dat := by omega
          go_wp2_with fail
          go_round
          case rel => exact ⟨j + 1, by omega, by rw [ha3.out], by go_num, by go_num⟩
          case measure => simp [intOf]; omega
        · obtain rfl : j = sds.length := by omega
          have hj1 : ¬(sds.length : Int) < (lsd.length : Int) := by omega
          rw [List.take_of_length_le (Nat.le_refl _)]
          go_upto_region 8 with (first | (refine wpList_load_part rfl 43 (.tmp 18) rfl (g4) 0 rfl 43 (PL u' A4 n4 c4) HB4.out 48 _ Try.underlying43 info_port (show 0 + 48 ≤ 48 by decide) (PA u' A4 n4 c4) (by rfl) rfl ?_) | (refine wpList_store_part rfl 43 (.tmp 9) (.tmp 134) rfl (gu) 0 rfl 43 (PL u A2 n2 c2) HBU.out (PL u' A4 n4 c4) rfl info_port (show 0 + 48 ≤ 48 by decide) rfl (PL u' A4 n4 c4) rfl ?_; intro WD BD OD) | fail)
          replace U := Lib.hid (OD.bel U.out hwu)
          replace HBA := Lib.hid (OD.blk HBA.out (by omega))
          have HW5 := Lib.hid (((HW4.out.onlyN OD (Or.inl (by omega))).more (hi' := WD.heap.size) (by rw [OD.2]; exact Nat.le_refl _)).less (lo' := gu + 1) (by omega))
          replace HBU := Lib.hid (show PB WD gu u' A4 n4 c4 from BD)
          clear BD OD HW4 HSD HB4
          go_wp2_with fail
          go_roundg (gk - 1)
          case measure => omega
          case rel => exact ⟨i + 1, many + sds.length, taken, sq + 1, now + late, Sb.lastS last sds, q, u', A', c', A4, n4, c4, l4, by omega, rfl, rfl, by go_num, by go_num, by go_num, by omega, HM3, HL', HO', HBA, hc3, HBU, HQ4, hn4, hcc4, hcm4, HW5, U⟩
end Go.Proofs.Ytahbecinkciahaa

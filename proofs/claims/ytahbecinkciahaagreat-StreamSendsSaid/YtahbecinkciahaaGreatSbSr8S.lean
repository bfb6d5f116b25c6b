/- Layer 32: Send, the region that encodes, any codec. -/
import Derived.Test.YtahbecinkciahaaGreatSs9S
import Derived.Test.YtahbecinkciahaaGreatSbDecsS
import Derived.Test.YtahbecinkciahaaGreatJtPutG1S
import Derived.Test.YtahbecinkciahaaGreatJtCopyS
import Derived.RegionTactic
import Derived.ChangeAlike
import Derived.Deep.RegionHeld3
import Derived.Deep.QuietTactic
import Derived.BigQuiet
import Derived.Laws.BitsAllLaws
import Derived.Laws.Rows
import Derived.Deep.LoopGhost
set_option linter.unusedVariables false
set_option linter.unusedSimpArgs false
set_option maxRecDepth 100000
set_option maxHeartbeats 12800000
namespace Go.Proofs.YtahbecinkciahaaGreat
attribute [local go_sem ↓] zac zad
attribute [local go_sem] zab zag
open Go.RowKit
noncomputable def sr8_code : Code := ((Tryz.f23.body.bind (findRegS 8)).getD .skip)
theorem zto {s0 s3 s4 s5 s6 s7 s8 s9 s10 s11 s12 s13 s14 s15 s16 s17 s18 s19 s20 s21 s22 s23 s24 s25 s26 s27 s28 s29 s30 s31 s32 s33 s34 s35 s36 s37 s38 s39 s40 s41 s42 s43 s44 s45 s46 s47 s48 s49 s50 s51 s52 s53 s54 s55 s56 s57 s58 s59 s60 s61 s62 s63 s64 s65 s66 s67 s68 s69 s70 s71 s72 s73 s74 s75 s76 s77 s78 s79 s80 s81 s82 s83 s84 s85 s86 s87 s88 s89 s90 s91 s92 s93 s94 s95 s96 s97 s98 s99 s100 s101 s102 s103 s104 s105 s106 s107 s108 s109 s110 s111 s112 s113 s114 s115 s116 s117 s118 s119 s120 s121 s122 s123 s124 s125 s126 s127 s128 s129 s130 s131 s132 s133 s134 s135 s136 s137 s138 : Value} {Q : Exit → Act → World → Prop} (N : Nat) (kc v i : Int) (k0 : 0 ≤ kc) (k1 : kc ≤ 255) (ZA : Option Addr) (zs : List Int) (zc : Nat) (bs : List Int) (s : Int × Int) (FK : Nat) (FC : Nat → Nat → Array Value) (FD : Nat → Nat → Value) (hE : EncK kc v i ZA zc zs bs s FK FC FD) (W : World) (x0 : W.cell? ⟨N, 0, none⟩ = some (.int .u8 kc)) (x6 : W.cell? ⟨N, 6, none⟩ = some (.int .i64 v)) (x7 : W.cell? ⟨N, 7, none⟩ = some (.int .i64 i)) (hZ : IntsAt W W.heap.size .i16 ZA zs) (hQp : ∀ (ch : _) (a : Act) (d : Tmp) (u : Value) (w : World), Q (.panic ch) (a.put (some d) u) w → Q (.panic ch) a w)
 (h : ∀ (wx : World) (A8 : Option Addr) (c8 g8 : Nat) (u43 u44 u45 u46 u47 u48 u49 u50 u51 u52 u53 u54 u55 : Value), Hid (IntsNew W.heap.size wx .u8 A8 bs) → Hid (Blk wx g8 24 #[.int .i64 s.1, .int .i64 s.2]) → Hid (W.heap.size ≤ g8) → Hid (Below W.heap.size W wx) → Q .normal ⟨#[s0, .slice ZA 160 zc, .pointer (some ⟨N, 0, none⟩), s3, s4, s5, s6, s7, s8, s9, s10, s11, s12, s13, s14, s15, s16, .slice A8 bs.length c8, .pointer (some ⟨g8, 0, none⟩), .int .u8 0, s20, s21, s22, s23, s24, s25, s26, s27, s28, s29, s30, s31, s32, s33, s34, s35, s36, s37, s38, s39, s40, s41, s42, u43, u44, u45, u46, u47, u48, u49, u50, u51, u52, u53, u54, u55, s56, s57, s58, s59, s60, s61, s62, s63, s64, s65, s66, s67, s68, s69, s70, s71, s72, s73, s74, s75, s76, s77, s78, s79, s80, s81, s82, s83, s84, s85, s86, s87, s88, s89, s90, s91, s92, s93, s94, s95, s96, s97, s98, s99, s100, s101, s102, s103, s104, s105, s106, s107, s108, s109, s110, s111, s112, s113, s114, s115, s116, s117, s118, s119, s120, s121, s122, s123, s124, s125, s126, s127, s128, s129, s130, s131, s132, s133, s134, s135, s136, s137, s138], []⟩ wx) : sr8_code.wp Tryz.prog Q ⟨#[s0, .slice ZA 160 zc, .pointer (some ⟨N, 0, none⟩), s3, s4, s5, s6, s7, s8, s9, s10, s11, s12, s13, s14, s15, s16, s17, s18, s19, s20, s21, s22, s23, s24, s25, s26, s27, s28, s29, s30, s31, s32, s33, s34, s35, s36, s37, s38, s39, s40, s41, s42, s43, s44, s45, s46, s47, s48, s49, s50, s51, s52, s53, s54, s55, s56, s57, s58, s59, s60, s61, s62, s63, s64, s65, s66, s67, s68, s69, s70, s71, s72, s73, s74, s75, s76, s77, s78, s79, s80, s81, s82, s83, s84, s85, s86, s87, s88, s89, s90, s91, s92, s93, s94, s95, s96, s97, s98, s99, s100, s101, s102, s103, s104, s105, s106, s107, s108, s109, s110, s111, s112, s113, s114, s115, s116, s117, s118, s119, s120, s121, s122, s123, s124, s125, s126, s127, s128, s129, s130, s131, s132, s133, s134, s135, s136, s137, s138], []⟩ W := by
 have HE := H9 hE
 have HZ := H9 hZ
 have hq := H9 h
 clear hZ h hE
 obtain ⟨s1, s2⟩ := s
 conv => arg 2; whnf
 refine wp_region_held_drew (S := fun w' => Below W.heap.size W w') (by kernel_rfl) (Below.drew (Below.refl _ _)) (fun qH => ?_)
 refine tk1 (i := 1) (v := ?_) rfl (Or.inl ⟨by rfl, ?_⟩) qH ?_ (hQ := q9 hQp)
 rotate_left
 · (intro w hSw; clear hSw; go_simp; try with_reducible rfl)
 try simp only [ss9]
 refine tk1 (i := 2) (v := ?_) rfl (Or.inl ⟨by rfl, ?_⟩) qH ?_ (hQ := q9 hQp)
 rotate_left
 · (intro w hSw; have c0 := zaa hSw x0; clear hSw; go_simp; try with_reducible rfl)
 try simp only [ss9]
 refine tk1 (i := 5) (v := ?_) rfl (Or.inl ⟨by rfl, ?_⟩) qH ?_ (hQ := q9 hQp)
 rotate_left
 · (intro w hSw; clear hSw; go_simp; try with_reducible rfl)
 try simp only [ss9]
 refine tk1 (i := 6) (v := ?_) rfl (Or.inl ⟨by rfl, ?_⟩) qH ?_ (hQ := q9 hQp)
 rotate_left
 · (intro w hSw; have c6 := zaa hSw x6; have c7 := zaa hSw x7; clear hSw; go_simp; try with_reducible rfl)
 try simp only [ss9]
 refine tk1 (i := 7) (v := ?_) rfl (Or.inl ⟨by rfl, ?_⟩) qH ?_ (hQ := q9 hQp)
 rotate_left
 · (intro w hSw; clear hSw; go_simp; try with_reducible rfl)
 try simp only [ss9]
 refine wpAnyH_ready (rs := [0, 13]) (by kernel_rfl) (by simp) ?_
 refine AllReadyH.cons (o := _) rfl (fun K hK => ?_) (AllReadyH.cons (o := _) rfl (fun K hK => ?_) AllReadyH.nil)
 · go_simp
   refine (zbw _).mono ?_
   rintro e w7 ⟨b, b1, b2, rfl, C, hb1⟩
   have HC := H9 C
   refine hK.out _ _ ?_ (fun qH => ?_)
   · exact zaj hb1 qH
   clear hK K C hb1
   try simp only [ss9]
   refine wpAnyH_ready (rs := [3, 13]) (by kernel_rfl) (by simp) ?_
   refine AllReadyH.cons (o := _) rfl (fun K hK => ?_) (AllReadyH.cons (o := _) rfl (fun K hK => ?_) AllReadyH.nil)
   · have kl := (zbr HC.out kc k0 k1).1
     rw [HE.out.at_] at kl
     go_simp
     refine hK.out _ _ ?_ (fun qH => ?_)
     · exact qH
     clear hK K kl
     try simp only [ss9]
     have hfl := zfk
     refine tk1 (i := 4) (v := ?_) rfl (Or.inl ⟨by rfl, ?_⟩) qH ?_ (hQ := q9 hQp)
     rotate_left
     · (intro w hSw; clear hSw; go_simp; try with_reducible rfl)
     try simp only [ss9]
     clear hfl
     refine wpAnyH_ready (rs := [8, 13]) (by kernel_rfl) (by simp) ?_
     refine AllReadyH.cons (o := _) rfl (fun K hK => ?_) (AllReadyH.cons (o := _) rfl (fun K hK => ?_) AllReadyH.nil)
     · go_simp
       rw [HE.out.en]
       refine (HE.out.run _ b1 b2 (HZ.out.later qH) HC.out.l1 HC.out.l2).mono ?_
       rintro e w9 ⟨A8, c8, rfl, hI9, hb2⟩
       have HI := H9 (hI9.less qH.size)
       refine hK.out _ _ ?_ (fun qH => ?_)
       · exact zaj hb2 qH
       clear hK K HC hI9 hb2
       try simp only [ss9]
       refine tk1 (i := 9) (v := ?_) rfl (Or.inl ⟨by rfl, ?_⟩) qH ?_ (hQ := q9 hQp)
       rotate_left
       · (intro w hSw; clear hSw; go_simp; try with_reducible rfl)
       try simp only [ss9]
       refine tk1 (i := 10) (v := ?_) rfl (Or.inl ⟨by rfl, ?_⟩) qH ?_ (hQ := q9 hQp)
       rotate_left
       · (intro w hSw; clear hSw; go_simp; try with_reducible rfl)
       try simp only [ss9]
       refine tk1 (i := 11) (v := ?_) rfl (Or.inl ⟨by rfl, ?_⟩) qH ?_ (hQ := q9 hQp)
       rotate_left
       · (intro w hSw; clear hSw; go_simp; try with_reducible rfl)
       try simp only [ss9]
       refine tk1 (i := 12) (v := ?_) rfl (Or.inl ⟨by rfl, ?_⟩) qH ?_ (hQ := q9 hQp)
       rotate_left
       · (intro w hSw; clear hSw; go_simp; try with_reducible rfl)
       try simp only [ss9]
       refine wpAnyH_ready (rs := [13]) (by kernel_rfl) (by simp) ?_
       refine AllReadyH.cons (o := _) rfl (fun K hK => ?_) AllReadyH.nil
       · go_simp
         have HD := H9 (Blk.new (w9) 24 #[.int .i64 0, .int .i64 0])
         have hg8 : W.heap.size ≤ (w9).heap.size := qH.size
         obtain ⟨g8, hgg⟩ : ∃ g, g = (w9).heap.size := ⟨_, rfl⟩
         replace HI := H9 (HI.out.push (Obj.cells #[.int .i64 0, .int .i64 0] 24))
         refine hK.out _ _ ?_ (fun qH => ?_)
         · exact zak qH _
         clear hK K
         try simp only [ss9]
         obtain ⟨V4, hV⟩ : ∃ V, V = (w9).alloc (Obj.cells #[.int .i64 0, .int .i64 0] 24) := ⟨_, rfl⟩
         rw [← hV] at HD qH HI ⊢
         rw [← hgg] at HD hg8 ⊢
         clear hgg
         clear hV
         refine tk1 (i := 14) (v := ?_) rfl (Or.inl ⟨by rfl, ?_⟩) qH ?_ (hQ := q9 hQp)
         rotate_left
         · (intro w hSw; clear hSw; go_simp; try with_reducible rfl)
         try simp only [ss9]
         have y0 := HD.out.at 0 _ rfl
         have y1 := HD.out.at 1 _ rfl
         have yz := HD.out.frozen
         refine wpAnyH_ready (rs := [15]) (by kernel_rfl) (by simp) ?_
         refine AllReadyH.cons (o := _) rfl (fun K hK => ?_) AllReadyH.nil
         go_simp
         refine hK.out _ _ ?_ (fun qH => ?_)
         · exact zai (zai qH hg8 _) hg8 _
         clear hK K
         try simp only [ss9]
         refine tk1 (i := 16) (v := ?_) rfl (Or.inl ⟨by rfl, ?_⟩) qH ?_ (hQ := q9 hQp)
         rotate_left
         · (intro w hSw; clear hSw; go_simp; try with_reducible rfl)
         try simp only [ss9]
         refine wpAnyH_done (by kernel_rfl) ?_ _
         have z1 := (HD.out.set_ 0 (.int .i64 s1)).at 1 _ rfl
         exact hq.out _ A8 c8 _ _ _ _ _ _ _ _ _ _ _ _ _ _ (H9 ⟨((HI.out.1.set_ne y0 (by intro z e; cases e) _).set_ne z1 (by intro z e; cases e) _).more (by simp [World.setCell]), HI.out.2⟩) (H9 ((HD.out.set_ 0 _).set_ 1 _)) (H9 hg8) (H9 qH)
     · go_simp
       have HD := H9 (Blk.new (w7) 24 #[.int .i64 0, .int .i64 0])
       have hg8 : W.heap.size ≤ (w7).heap.size := qH.size
       obtain ⟨g8, hgg⟩ : ∃ g, g = (w7).heap.size := ⟨_, rfl⟩
       replace HC := H9 (HC.out.later ((Below.refl _ _).alloc (Nat.le_refl _) (Obj.cells #[.int .i64 0, .int .i64 0] 24)))
       refine hK.out _ _ ?_ (fun qH => ?_)
       · exact zak qH _
       clear hK K
       try simp only [ss9]
       obtain ⟨V5, hV⟩ : ∃ V, V = (w7).alloc (Obj.cells #[.int .i64 0, .int .i64 0] 24) := ⟨_, rfl⟩
       rw [← hV] at HD qH HC ⊢
       rw [← hgg] at HD hg8 ⊢
       clear hgg
       clear hV
       refine wpAnyH_ready (rs := [8]) (by kernel_rfl) (by simp) ?_
       refine AllReadyH.cons (o := _) rfl (fun K hK => ?_) AllReadyH.nil
       · go_simp
         rw [HE.out.en]
         refine (HE.out.run _ b1 b2 (HZ.out.later qH) HC.out.l1 HC.out.l2).mono ?_
         rintro e w9 ⟨A8, c8, rfl, hI9, hb2⟩
         have HI := H9 (hI9.less qH.size)
         replace HD := H9 (HD.out.later hb2)
         refine hK.out _ _ ?_ (fun qH => ?_)
         · exact zaj hb2 qH
         clear hK K HC hI9 hb2
         try simp only [ss9]
         refine tk1 (i := 9) (v := ?_) rfl (Or.inl ⟨by rfl, ?_⟩) qH ?_ (hQ := q9 hQp)
         rotate_left
         · (intro w hSw; clear hSw; go_simp; try with_reducible rfl)
         try simp only [ss9]
         refine tk1 (i := 10) (v := ?_) rfl (Or.inl ⟨by rfl, ?_⟩) qH ?_ (hQ := q9 hQp)
         rotate_left
         · (intro w hSw; clear hSw; go_simp; try with_reducible rfl)
         try simp only [ss9]
         refine tk1 (i := 11) (v := ?_) rfl (Or.inl ⟨by rfl, ?_⟩) qH ?_ (hQ := q9 hQp)
         rotate_left
         · (intro w hSw; clear hSw; go_simp; try with_reducible rfl)
         try simp only [ss9]
         refine tk1 (i := 12) (v := ?_) rfl (Or.inl ⟨by rfl, ?_⟩) qH ?_ (hQ := q9 hQp)
         rotate_left
         · (intro w hSw; clear hSw; go_simp; try with_reducible rfl)
         try simp only [ss9]
         refine tk1 (i := 14) (v := ?_) rfl (Or.inl ⟨by rfl, ?_⟩) qH ?_ (hQ := q9 hQp)
         rotate_left
         · (intro w hSw; clear hSw; go_simp; try with_reducible rfl)
         try simp only [ss9]
         have y0 := HD.out.at 0 _ rfl
         have y1 := HD.out.at 1 _ rfl
         have yz := HD.out.frozen
         refine wpAnyH_ready (rs := [15]) (by kernel_rfl) (by simp) ?_
         refine AllReadyH.cons (o := _) rfl (fun K hK => ?_) AllReadyH.nil
         go_simp
         refine hK.out _ _ ?_ (fun qH => ?_)
         · exact zai (zai qH hg8 _) hg8 _
         clear hK K
         try simp only [ss9]
         refine tk1 (i := 16) (v := ?_) rfl (Or.inl ⟨by rfl, ?_⟩) qH ?_ (hQ := q9 hQp)
         rotate_left
         · (intro w hSw; clear hSw; go_simp; try with_reducible rfl)
         try simp only [ss9]
         refine wpAnyH_done (by kernel_rfl) ?_ _
         have z1 := (HD.out.set_ 0 (.int .i64 s1)).at 1 _ rfl
         exact hq.out _ A8 c8 _ _ _ _ _ _ _ _ _ _ _ _ _ _ (H9 ⟨((HI.out.1.set_ne y0 (by intro z e; cases e) _).set_ne z1 (by intro z e; cases e) _).more (by simp [World.setCell]), HI.out.2⟩) (H9 ((HD.out.set_ 0 _).set_ 1 _)) (H9 hg8) (H9 qH)
   · go_simp
     have HD := H9 (Blk.new (w7) 24 #[.int .i64 0, .int .i64 0])
     have hg8 : W.heap.size ≤ (w7).heap.size := qH.size
     obtain ⟨g8, hgg⟩ : ∃ g, g = (w7).heap.size := ⟨_, rfl⟩
     replace HC := H9 (HC.out.later ((Below.refl _ _).alloc (Nat.le_refl _) (Obj.cells #[.int .i64 0, .int .i64 0] 24)))
     refine hK.out _ _ ?_ (fun qH => ?_)
     · exact zak qH _
     clear hK K
     try simp only [ss9]
     obtain ⟨V7, hV⟩ : ∃ V, V = (w7).alloc (Obj.cells #[.int .i64 0, .int .i64 0] 24) := ⟨_, rfl⟩
     rw [← hV] at HD qH HC ⊢
     rw [← hgg] at HD hg8 ⊢
     clear hgg
     clear hV
     refine wpAnyH_ready (rs := [3]) (by kernel_rfl) (by simp) ?_
     refine AllReadyH.cons (o := _) rfl (fun K hK => ?_) AllReadyH.nil
     · have kl := (zbr HC.out kc k0 k1).1
       rw [HE.out.at_] at kl
       go_simp
       refine hK.out _ _ ?_ (fun qH => ?_)
       · exact qH
       clear hK K kl
       try simp only [ss9]
       have hfl := zfk
       refine tk1 (i := 4) (v := ?_) rfl (Or.inl ⟨by rfl, ?_⟩) qH ?_ (hQ := q9 hQp)
       rotate_left
       · (intro w hSw; clear hSw; go_simp; try with_reducible rfl)
       try simp only [ss9]
       clear hfl
       refine wpAnyH_ready (rs := [8]) (by kernel_rfl) (by simp) ?_
       refine AllReadyH.cons (o := _) rfl (fun K hK => ?_) AllReadyH.nil
       · go_simp
         rw [HE.out.en]
         refine (HE.out.run _ b1 b2 (HZ.out.later qH) HC.out.l1 HC.out.l2).mono ?_
         rintro e w9 ⟨A8, c8, rfl, hI9, hb2⟩
         have HI := H9 (hI9.less qH.size)
         replace HD := H9 (HD.out.later hb2)
         refine hK.out _ _ ?_ (fun qH => ?_)
         · exact zaj hb2 qH
         clear hK K HC hI9 hb2
         try simp only [ss9]
         refine tk1 (i := 9) (v := ?_) rfl (Or.inl ⟨by rfl, ?_⟩) qH ?_ (hQ := q9 hQp)
         rotate_left
         · (intro w hSw; clear hSw; go_simp; try with_reducible rfl)
         try simp only [ss9]
         refine tk1 (i := 10) (v := ?_) rfl (Or.inl ⟨by rfl, ?_⟩) qH ?_ (hQ := q9 hQp)
         rotate_left
         · (intro w hSw; clear hSw; go_simp; try with_reducible rfl)
         try simp only [ss9]
         refine tk1 (i := 11) (v := ?_) rfl (Or.inl ⟨by rfl, ?_⟩) qH ?_ (hQ := q9 hQp)
         rotate_left
         · (intro w hSw; clear hSw; go_simp; try with_reducible rfl)
         try simp only [ss9]
         refine tk1 (i := 12) (v := ?_) rfl (Or.inl ⟨by rfl, ?_⟩) qH ?_ (hQ := q9 hQp)
         rotate_left
         · (intro w hSw; clear hSw; go_simp; try with_reducible rfl)
         try simp only [ss9]
         refine tk1 (i := 14) (v := ?_) rfl (Or.inl ⟨by rfl, ?_⟩) qH ?_ (hQ := q9 hQp)
         rotate_left
         · (intro w hSw; clear hSw; go_simp; try with_reducible rfl)
         try simp only [ss9]
         have y0 := HD.out.at 0 _ rfl
         have y1 := HD.out.at 1 _ rfl
         have yz := HD.out.frozen
         refine wpAnyH_ready (rs := [15]) (by kernel_rfl) (by simp) ?_
         refine AllReadyH.cons (o := _) rfl (fun K hK => ?_) AllReadyH.nil
         go_simp
         refine hK.out _ _ ?_ (fun qH => ?_)
         · exact zai (zai qH hg8 _) hg8 _
         clear hK K
         try simp only [ss9]
         refine tk1 (i := 16) (v := ?_) rfl (Or.inl ⟨by rfl, ?_⟩) qH ?_ (hQ := q9 hQp)
         rotate_left
         · (intro w hSw; clear hSw; go_simp; try with_reducible rfl)
         try simp only [ss9]
         refine wpAnyH_done (by kernel_rfl) ?_ _
         have z1 := (HD.out.set_ 0 (.int .i64 s1)).at 1 _ rfl
         exact hq.out _ A8 c8 _ _ _ _ _ _ _ _ _ _ _ _ _ _ (H9 ⟨((HI.out.1.set_ne y0 (by intro z e; cases e) _).set_ne z1 (by intro z e; cases e) _).more (by simp [World.setCell]), HI.out.2⟩) (H9 ((HD.out.set_ 0 _).set_ 1 _)) (H9 hg8) (H9 qH)
 · go_simp
   have HD := H9 (Blk.new (W) 24 #[.int .i64 0, .int .i64 0])
   have hg8 : W.heap.size ≤ (W).heap.size := qH.size
   obtain ⟨g8, hgg⟩ : ∃ g, g = (W).heap.size := ⟨_, rfl⟩
   replace HD := H9 (Blk.dr HD.out)
   refine hK.out _ _ ?_ (fun qH => ?_)
   · exact Below.drew (zak (Below.refl _ _) _)
   clear hK K
   try simp only [ss9]
   obtain ⟨V10, hV⟩ : ∃ V, V = (W.alloc (Obj.cells #[.int .i64 0, .int .i64 0] 24)).drew := ⟨_, rfl⟩
   rw [← hV] at HD qH ⊢
   subst hgg
   clear hV
   refine wpAnyH_ready (rs := [0]) (by kernel_rfl) (by simp) ?_
   refine AllReadyH.cons (o := _) rfl (fun K hK => ?_) AllReadyH.nil
   · go_simp
     refine (zbw _).mono ?_
     rintro e w7 ⟨b, b1, b2, rfl, C, hb1⟩
     have HC := H9 C
     replace HD := H9 (HD.out.later hb1)
     refine hK.out _ _ ?_ (fun qH => ?_)
     · exact zaj hb1 qH
     clear hK K C hb1
     try simp only [ss9]
     refine wpAnyH_ready (rs := [3]) (by kernel_rfl) (by simp) ?_
     refine AllReadyH.cons (o := _) rfl (fun K hK => ?_) AllReadyH.nil
     · have kl := (zbr HC.out kc k0 k1).1
       rw [HE.out.at_] at kl
       go_simp
       refine hK.out _ _ ?_ (fun qH => ?_)
       · exact qH
       clear hK K kl
       try simp only [ss9]
       have hfl := zfk
       refine tk1 (i := 4) (v := ?_) rfl (Or.inl ⟨by rfl, ?_⟩) qH ?_ (hQ := q9 hQp)
       rotate_left
       · (intro w hSw; clear hSw; go_simp; try with_reducible rfl)
       try simp only [ss9]
       clear hfl
       refine wpAnyH_ready (rs := [8]) (by kernel_rfl) (by simp) ?_
       refine AllReadyH.cons (o := _) rfl (fun K hK => ?_) AllReadyH.nil
       · go_simp
         rw [HE.out.en]
         refine (HE.out.run _ b1 b2 (HZ.out.later qH) HC.out.l1 HC.out.l2).mono ?_
         rintro e w9 ⟨A8, c8, rfl, hI9, hb2⟩
         have HI := H9 (hI9.less qH.size)
         replace HD := H9 (HD.out.later hb2)
         refine hK.out _ _ ?_ (fun qH => ?_)
         · exact zaj hb2 qH
         clear hK K HC hI9 hb2
         try simp only [ss9]
         refine tk1 (i := 9) (v := ?_) rfl (Or.inl ⟨by rfl, ?_⟩) qH ?_ (hQ := q9 hQp)
         rotate_left
         · (intro w hSw; clear hSw; go_simp; try with_reducible rfl)
         try simp only [ss9]
         refine tk1 (i := 10) (v := ?_) rfl (Or.inl ⟨by rfl, ?_⟩) qH ?_ (hQ := q9 hQp)
         rotate_left
         · (intro w hSw; clear hSw; go_simp; try with_reducible rfl)
         try simp only [ss9]
         refine tk1 (i := 11) (v := ?_) rfl (Or.inl ⟨by rfl, ?_⟩) qH ?_ (hQ := q9 hQp)
         rotate_left
         · (intro w hSw; clear hSw; go_simp; try with_reducible rfl)
         try simp only [ss9]
         refine tk1 (i := 12) (v := ?_) rfl (Or.inl ⟨by rfl, ?_⟩) qH ?_ (hQ := q9 hQp)
         rotate_left
         · (intro w hSw; clear hSw; go_simp; try with_reducible rfl)
         try simp only [ss9]
         refine tk1 (i := 14) (v := ?_) rfl (Or.inl ⟨by rfl, ?_⟩) qH ?_ (hQ := q9 hQp)
         rotate_left
         · (intro w hSw; clear hSw; go_simp; try with_reducible rfl)
         try simp only [ss9]
         have y0 := HD.out.at 0 _ rfl
         have y1 := HD.out.at 1 _ rfl
         have yz := HD.out.frozen
         refine wpAnyH_ready (rs := [15]) (by kernel_rfl) (by simp) ?_
         refine AllReadyH.cons (o := _) rfl (fun K hK => ?_) AllReadyH.nil
         go_simp
         refine hK.out _ _ ?_ (fun qH => ?_)
         · exact zai (zai qH hg8 _) hg8 _
         clear hK K
         try simp only [ss9]
         refine tk1 (i := 16) (v := ?_) rfl (Or.inl ⟨by rfl, ?_⟩) qH ?_ (hQ := q9 hQp)
         rotate_left
         · (intro w hSw; clear hSw; go_simp; try with_reducible rfl)
         try simp only [ss9]
         refine wpAnyH_done (by kernel_rfl) ?_ _
         have z1 := (HD.out.set_ 0 (.int .i64 s1)).at 1 _ rfl
         exact hq.out _ A8 c8 _ _ _ _ _ _ _ _ _ _ _ _ _ _ (H9 ⟨((HI.out.1.set_ne y0 (by intro z e; cases e) _).set_ne z1 (by intro z e; cases e) _).more (by simp [World.setCell]), HI.out.2⟩) (H9 ((HD.out.set_ 0 _).set_ 1 _)) (H9 hg8) (H9 qH)
theorem zdr (p : Sb.Pt) (hw : p.wf) (A : Option Addr) (l : List TW) (n c : Nat) (X : Array Value) (hX : X = PA p A n c) (w : World) (hq : l.map TW.w = p.jt.q) (hn : l.length = n) (hl : n ≤ 100000) (hA : Wts w w.heap.size A l) (hK : ∀ a ∈ l, I64 a.w.m.sq) (now : Int) : Calls Tryz.prog 38 #[.agg X, .int .i64 now] w fun e w' => e = .returned (.int .u8 (Sb.chkT p now)) ∧ Below w.heap.size w w' := by
 have PB0 := H9 (PB.new w X hX)
 have U0 := H9 ((Bel.refl w).push (.cells X 48))
 have HA := H9 (hA.push (.cells X 48))
 obtain ⟨v, hv⟩ : ∃ v, v = p.valid := ⟨_, rfl⟩
 have k1 := H9 fun (W : World) hW => zce p hw A l n c (PA p A n c) rfl W hq hn hl hW hK v hv
 obtain ⟨R, hR⟩ : ∃ R, R = Sb.chkT p now := ⟨_, rfl⟩
 rw [← hR]
 unfold Sb.chkT at hR
 rw [← hv] at hR
 have HR := H9 hR
 clear hX hA hK hq hv hR
 go_enter Tryz.func38, Tryz.ntmps38
 go_upto_region 1 with fail
 obtain ⟨W, hW⟩ : ∃ W, W = w.alloc (Obj.cells X 48) := ⟨_, rfl⟩
 rw [← hW] at PB0 U0 HA ⊢
 clear hW
 obtain ⟨g, hg⟩ : ∃ g, g = w.heap.size := ⟨_, rfl⟩
 rw [← hg] at PB0 ⊢
 clear hg
 go_wp2_with (first | fail | (refine zae rfl 48 (.tmp 2) rfl (g) 0 rfl 48 (PL p A n c) PB0.out 48 _ Tryz.underlying48 zah (show 0 + 48 ≤ 48 by decide) (PA p A n c) (by rfl) rfl ?_))
 refine (k1.out _ HA.out).mono ?_
 rintro e w1 ⟨rfl, hb1⟩
 replace U0 := H9 (U0.out.later hb1)
 replace PB0 := H9 (PB0.out.later hb1)
 clear hb1
 have x16 := PB0.out.jt.2.2.1
 cases v
 · obtain rfl : R = 2 := by rw [HR.out]; simp
   go_wp2_with fail
   go_ret
   exact ⟨rfl, U0.out⟩
 by_cases h1 : 281474976710656 < now
 · obtain rfl : R = 2 := by rw [HR.out, if_pos (Or.inr h1)]
   go_wp2_with fail
   go_ret
   exact ⟨rfl, U0.out⟩
 have hno : ¬(true = false ∨ 281474976710656 < now) := fun h => h.elim (fun h => by cases h) h1
 by_cases h2 : now < p.jt.now
 · obtain rfl : R = 9 := by rw [HR.out, if_neg hno, if_pos h2]
   clear hno
   go_wp2_with fail
   go_ret
   exact ⟨rfl, U0.out⟩
 obtain rfl : R = 0 := by rw [HR.out, if_neg hno, if_neg h2]
 clear hno
 go_wp2_with fail
 go_ret
 exact ⟨rfl, U0.out⟩
end Go.Proofs.YtahbecinkciahaaGreat
namespace Go.Proofs.YtahbecinkciahaaGreat
open Go.RowKit
structure TS where
 s : Sb.Sd
 S : Option Addr
 c : Nat
def TS.row (a : TS) : List Value := [.int .i64 a.s.at_, .slice a.S a.s.zs.length a.c, .slice none 0 0]
def Sds (w : World) (n : Nat) (A : Option Addr) (l : List TS) : Prop := RowsAt w n 3 TS.row A l ∧ ∀ a ∈ l, IntsAt w n .i16 a.S a.s.zs
section
variable {w w' : World} {n : Nat} {A : Option Addr} {l : List TS}
theorem Sds.nil : Sds w n A [] := ⟨RowsAt.nil, fun _ h => by cases h⟩
theorem Sds.keep (h : Sds w n A l) (hk : ∀ p : Addr, p.block < n → w'.cell? p = w.cell? p) : Sds w' n A l := ⟨h.1.keep hk, fun a ha => (h.2 a ha).keep hk⟩
theorem Sds.more {m : Nat} (h : Sds w n A l) (hm : n ≤ m) : Sds w m A l := ⟨h.1.more hm, fun a ha => (h.2 a ha).more hm⟩
theorem Sds.later (h : Sds w w.heap.size A l) (hb : Below w.heap.size w w') : Sds w' w'.heap.size A l := (h.keep fun _ hp => hb.cell hp).more hb.size
theorem Sds.push (h : Sds w w.heap.size A l) (o : Obj) : Sds (w.alloc o) (w.alloc o).heap.size A l := (h.keep fun p hp => World.cell?_alloc_lt w o p hp).more (by simp)
end
theorem zra {w : World} {n : Nat} {A : Option Addr} {l : List TS} (h : RowsAt w n 3 TS.row A l) {k : Nat} {a : TS} (ha : l[k]? = some a) : ∃ b off, A = some ⟨b, off, none⟩ ∧ b < n ∧
 w.cell? ⟨b, off + k * 3, none⟩ = some (.int .i64 a.s.at_) ∧ w.cell? ⟨b, off + k * 3 + 1, none⟩ = some (.slice a.S a.s.zs.length a.c) ∧ w.cell? ⟨b, off + k * 3 + 2, none⟩ = some (.slice none 0 0) := by
 obtain ⟨b, off, rfl, hb, hc⟩ := h (by have := (List.getElem?_eq_some_iff.1 ha).1; omega)
 exact ⟨b, off, rfl, hb, hc k a ha 0 _ rfl, hc k a ha 1 _ rfl, hc k a ha 2 _ rfl⟩
structure SOwn (w : World) (base : Nat) (A : Option Addr) (n c : Nat) (l : List TS) : Prop where
 len : l.length = n
 own : Owns w base 86 3 A n c (l.flatMap TS.row)
 pay : ∀ a ∈ l, IntsAt w w.heap.size .i16 a.S a.s.zs
 far : ∀ a ∈ l, 0 < a.s.zs.length → ∀ b off, a.S = some ⟨b, off, none⟩ → some b ≠ ownB A
 new : ∀ a ∈ l, 0 < a.s.zs.length → ∀ b off, a.S = some ⟨b, off, none⟩ → base ≤ b
theorem SOwn.nil {w : World} {base : Nat} : SOwn w base none 0 0 [] := ⟨rfl, Owns.nil, (fun _ h => by cases h), (fun _ h => by cases h), (fun _ h => by cases h)⟩
theorem SOwn.below {w w' : World} {base n c : Nat} {A : Option Addr} {l : List TS} (h : SOwn w base A n c l) (hb : Below w.heap.size w w') : SOwn w' base A n c l :=
 ⟨h.len, h.own.below hb, fun a ha => (h.pay a ha).later hb, h.far, h.new⟩
theorem SOwn.step {wr v1 v2 wn : World} {base k c cn : Nat} {A An : Option Addr} {l : List TS} {a : TS} (h : SOwn wr base A k c l) (hbs : base ≤ wr.heap.size) (hb : Below wr.heap.size wr v1) (hb2 : Below v1.heap.size v1 v2) (hg : v2.grownBy wn (ownB A))
 (qo : Owns wn base 86 3 An (k + 1) cn (l.flatMap TS.row ++ a.row)) (hat : ownB An = ownB A ∨ ∀ g, ownB An = some g → v2.heap.size ≤ g) (hI : IntsNew wr.heap.size v1 .i16 a.S a.s.zs) : SOwn wn base An (k + 1) cn (l ++ [a]) := by
 have s1 := hb.size
 have s2 := hb2.size
 have s3 := hg.size
 have hA : ∀ g, ownB A = some g → g < wr.heap.size := fun g hg' => (h.own.block g hg').2
 have key : ∀ (x : TS), IntsAt v2 v2.heap.size .i16 x.S x.s.zs → (0 < x.s.zs.length → ∀ b off, x.S = some ⟨b, off, none⟩ → some b ≠ ownB A) → IntsAt wn wn.heap.size .i16 x.S x.s.zs := by
  intro x hx hf h0
  obtain ⟨b, off, e, hlt, hc⟩ := hx h0
  exact ⟨b, off, e, by omega, fun i hi => hg.cell (hc i hi) (hf h0 b off e)⟩
 have farN : ∀ b off, 0 < a.s.zs.length → a.S = some ⟨b, off, none⟩ → wr.heap.size ≤ b ∧ b < v1.heap.size := by
  intro b off h0 e
  refine ⟨hI.2 h0 b off e, ?_⟩
  obtain ⟨b', off', e', hlt, _⟩ := hI.1 h0
  rw [e] at e'
  injection e' with e'
  injection e' with e1 _
  omega
 have farO : ∀ x ∈ l, ∀ b off, 0 < x.s.zs.length → x.S = some ⟨b, off, none⟩ → b < wr.heap.size := by
  intro x hx b off h0 e
  obtain ⟨b', off', e', hlt, _⟩ := h.pay x hx h0
  rw [e] at e'
  injection e' with e'
  injection e' with e1 _
  omega
 refine ⟨by simp [h.len], by rw [List.flatMap_append]; simpa using qo, fun x hx => ?_, fun x hx h0 b off e => ?_, fun x hx h0 b off e => ?_⟩
 · rcases List.mem_append.1 hx with hx | hx
   · exact key x (((h.pay x hx).later hb).later hb2) (h.far x hx)
   · obtain rfl := List.mem_singleton.1 hx
     refine key x (hI.1.later hb2) (fun h0 b off e he => ?_)
     have := farN b off h0 e
     have := hA b he.symm
     omega
 · rcases List.mem_append.1 hx with hx | hx
   · rcases hat with e2 | e2
     · rw [e2]; exact h.far x hx h0 b off e
     · intro he
       have := farO x hx b off h0 e
       have := e2 b he.symm
       omega
   · obtain rfl := List.mem_singleton.1 hx
     have := farN b off h0 e
     rcases hat with e2 | e2
     · rw [e2]
       intro he
       have := hA b he.symm
       omega
     · intro he
       have := e2 b he.symm
       omega
 · rcases List.mem_append.1 hx with hx | hx
   · exact h.new x hx h0 b off e
   · obtain rfl := List.mem_singleton.1 hx
     have := farN b off h0 e
     omega
theorem SOwn.sds {w : World} {base n c : Nat} {A : Option Addr} {l : List TS} (h : SOwn w base A n c l) : Sds w w.heap.size A l := by
 refine ⟨?_, h.pay⟩
 exact Owns.rows h.own h.len (fun a => rfl)
end Go.Proofs.YtahbecinkciahaaGreat
namespace Go.Proofs.YtahbecinkciahaaGreat.Sb
open Go.RowKit
theorem sounds_snoc : ∀ (l : List Jb.Wt) (s : Int) (a : Jb.Wt), sounds s (l ++ [a]) = ((dec a.m.ty a.m.pl (sounds s l).1).2, (sounds s l).2 ++ [⟨a.at_, (dec a.m.ty a.m.pl (sounds s l).1).1, []⟩])
 | [], s, a => rfl
 | b :: l, s, a => by
   show ((sounds (dec b.m.ty b.m.pl s).2 (l ++ [a])).1, (⟨b.at_, (dec b.m.ty b.m.pl s).1, []⟩ : Sd) :: (sounds (dec b.m.ty b.m.pl s).2 (l ++ [a])).2) = _
   rw [sounds_snoc l (dec b.m.ty b.m.pl s).2 a]
   rfl
theorem take_snoc {α : Type} {l : List α} {k : Nat} {a : α} (h : l[k]? = some a) : l.take (k + 1) = l.take k ++ [a] := by
 rw [List.take_add_one, h]; rfl
theorem noise_seed (a s : Int) (h0 : 0 ≤ s) (h1 : s ≤ 4294967295) (n : Nat) : 0 ≤ Ev.seed s n ∧ Ev.seed s n ≤ 4294967295 := by
 induction n with
 | zero => exact ⟨h0, h1⟩
 | succ n ih => unfold Ev.seed; omega
end Go.Proofs.YtahbecinkciahaaGreat.Sb
namespace Go.Proofs.YtahbecinkciahaaGreat
attribute [local go_sem ↓] zac zad
attribute [local go_sem] zab zag
open Go.RowKit
theorem znz : (Tryz.prog.info? 86).map (fun i => (i.zero, i.size, i.bytes)) = some (some (.agg #[.int .i64 0, .slice none 0 0, .slice none 0 0]), 3, 56) := by kernel_rfl
structure Kept (base gl : Nat) (w w' : World) : Prop where
 os : w'.os = w.os
 tape : w'.tape = w.tape
 output : w'.output = w.output
 size : w.heap.size ≤ w'.heap.size
 block : ∀ k, k < base → k < w.heap.size → k ≠ gl → w'.heap[k]? = w.heap[k]?
theorem Kept.blk {base gl g : Nat} {w w' : World} {t : TypeId} {cs : Array Value} (h : Kept base gl w w') (hb : Blk w g t cs) (hg : g < base) (hne : g ≠ gl) : Blk w' g t cs := (h.block g hg hb.lt hne).trans hb
theorem Kept.bel {base gl : Nat} {w0 w w' : World} (h : Kept base gl w w') (hb : Bel w0 w) (hs : w0.heap.size ≤ base) (hg : w0.heap.size ≤ gl) : Bel w0 w' :=
 ⟨h.os.trans hb.os, h.tape.trans hb.tape, h.output.trans hb.output, Nat.le_trans hb.size h.size, fun k hk => (h.block k (by omega) (by have := hb.size; omega) (by omega)).trans (hb.block k hk)⟩
theorem SOwn.step2 {w wn : World} {base k c cn : Nat} {A An : Option Addr} {l : List TS} {a : TS} (h : SOwn w base A k c l) (hg : w.grownBy wn (ownB A))
 (qo : Owns wn base 86 3 An (k + 1) cn (l.flatMap TS.row ++ a.row)) (hat : ownB An = ownB A ∨ ∀ g, ownB An = some g → w.heap.size ≤ g) (hI : IntsAt w w.heap.size .i16 a.S a.s.zs)
 (hf : 0 < a.s.zs.length → ∀ b off, a.S = some ⟨b, off, none⟩ → some b ≠ ownB A ∧ base ≤ b) : SOwn wn base An (k + 1) cn (l ++ [a]) := by
 have s3 := hg.size
 have key : ∀ (x : TS), IntsAt w w.heap.size .i16 x.S x.s.zs → (0 < x.s.zs.length → ∀ b off, x.S = some ⟨b, off, none⟩ → some b ≠ ownB A) → IntsAt wn wn.heap.size .i16 x.S x.s.zs := by
  intro x hx hf h0
  obtain ⟨b, off, e, hlt, hc⟩ := hx h0
  exact ⟨b, off, e, by omega, fun i hi => hg.cell (hc i hi) (hf h0 b off e)⟩
 have low : ∀ (x : TS), IntsAt w w.heap.size .i16 x.S x.s.zs → 0 < x.s.zs.length → ∀ b off, x.S = some ⟨b, off, none⟩ → b < w.heap.size := by
  intro x hx h0 b off e
  obtain ⟨b', off', e', hlt, _⟩ := hx h0
  rw [e] at e'
  injection e' with e'
  injection e' with e1 _
  omega
 have all : ∀ x ∈ l ++ [a], IntsAt w w.heap.size .i16 x.S x.s.zs ∧ (0 < x.s.zs.length → ∀ b off, x.S = some ⟨b, off, none⟩ → some b ≠ ownB A ∧ base ≤ b) := by
  intro x hx
  rcases List.mem_append.1 hx with hx | hx
  · exact ⟨h.pay x hx, fun h0 b off e => ⟨h.far x hx h0 b off e, h.new x hx h0 b off e⟩⟩
  · obtain rfl := List.mem_singleton.1 hx
    exact ⟨hI, hf⟩
 refine ⟨by simp [h.len], by rw [List.flatMap_append]; simpa using qo, fun x hx => key x (all x hx).1 (fun h0 b off e => ((all x hx).2 h0 b off e).1), fun x hx h0 b off e => ?_, fun x hx h0 b off e => ((all x hx).2 h0 b off e).2⟩
 rcases hat with e2 | e2
 · rw [e2]; exact ((all x hx).2 h0 b off e).1
 · intro he
   have := low x (all x hx).1 h0 b off e
   have := e2 b he.symm
   omega
theorem SOwn.only {w w' : World} {g base n c : Nat} {A : Option Addr} {l : List TS} (h : SOwn w base A n c l) (ho : OnlyB g w w') (hg : g < base) : SOwn w' base A n c l :=
 ⟨h.len, ho.owns h.own hg, fun a ha h0 => by
  obtain ⟨b, off, e, hlt, hc⟩ := h.pay a ha h0
  have := h.new a ha h0 b off e
  exact ⟨b, off, e, by rw [ho.2]; exact hlt, fun i hi => (ho.cell (show b ≠ g by omega)).trans (hc i hi)⟩, h.far, h.new⟩
def AddR (base gl : Nat) (k : Nat) (ls : List TS) (a : TS) (w : World) (e : Ending) (w' : World) : Prop :=
 e = .returned (.tuple #[]) ∧ ∃ (A' : Option Addr) (c' : Nat), Blk w' gl 54 #[.slice A' (k + 1) c'] ∧ SOwn w' base A' (k + 1) c' (ls ++ [a]) ∧ Kept base gl w w'
theorem zsi (base gl : Nat) (A : Option Addr) (k c : Nat) (ls : List TS) (at_ : Int) (S : Option Addr) (zs : List Int) (sc : Nat) (w : World) (HL : Blk w gl 54 #[.slice A k c]) (HO : SOwn w base A k c ls) (hk : k ≤ 100000) (hgl : gl < base) (hbs : base ≤ w.heap.size) (hI : IntsAt w w.heap.size .i16 S zs) (hf : 0 < zs.length → ∀ b off, S = some ⟨b, off, none⟩ → some b ≠ ownB A ∧ base ≤ b) : Calls Tryz.prog 111 #[.int .i64 at_, .slice S zs.length sc, .pointer (some ⟨gl, 0, none⟩)] w (AddR base gl k ls ⟨⟨at_, zs, []⟩, S, sc⟩ w) := by
 have HL := H9 HL
 have HO := H9 HO
 have HI := H9 hI
 have HF := H9 hf
 have HX := H9 HO.out.own
 clear hI hf
 go_enter Tryz.func111, Tryz.ntmps111
 have l0 := HL.out.at 0 _ rfl
 have lz := HL.out.frozen 0
 have hlt := HL.out.lt
 have h5 : (k + 1) * 56 ≤ 140737488355328 := by omega
 have h6 : k + 1 ≤ maxLen := by unfold maxLen; omega
 have hAk : ∀ g, ownB A = some g → base ≤ g := fun g e => (HX.out.block g e).1
 go_wp2_with (at_builtin; go_loud (refine zcc (w0 := w) rfl _ _ 54 rfl base 86 3 56 _ Tryz.underlying54 znz rfl (by decide) A k c _ rfl HX.out [.int .i64 at_, .slice S zs.length sc, .slice none 0 0] rfl (by simp [Value.oneCell']) rfl h6 h5 hbs ?_); intro A9 c9 v1 qo hgr hat; have BY := HL.out.grown hgr (fun e => by have := hAk _ e.symm; omega); have y0 := BY.at 0 _ rfl; have yz := BY.frozen 0)
 obtain ⟨V1, hV1⟩ : ∃ W, W = v1.setCell ⟨gl, 0, none⟩ (.slice A9 (k + 1) c9) := ⟨_, rfl⟩
 rw [← hV1]
 have OV : OnlyB gl v1 V1 := by rw [hV1]; exact OnlyB.setCell _ _ _ _
 have BL := H9 (show Blk V1 gl 54 #[.slice A9 (k + 1) c9] by rw [hV1]; exact BY.set_ 0 _)
 have HO2 := H9 ((HO.out.step2 (a := ⟨⟨at_, zs, []⟩, S, sc⟩) hgr (by simpa [TS.row] using qo) hat HI.out HF.out).only OV hgl)
 have HK := H9 (show Kept base gl w V1 from ⟨OV.1.os.trans hgr.os, OV.1.tape.trans hgr.tape, OV.1.output.trans hgr.output, Nat.le_trans hgr.size OV.1.size, fun j h1 h2 h3 => (OV.1.block j (by have := hgr.size; omega) (fun e => h3 (by injection e))).trans (hgr.block j h2 (fun e => by have := hAk _ e.symm; omega))⟩)
 clear hV1 OV BY y0 yz qo hgr hat l0 lz HL HO HX
 go_end0
 exact ⟨rfl, A9, c9, BL.out, HO2.out, HK.out⟩
end Go.Proofs.YtahbecinkciahaaGreat
namespace Go.Proofs.YtahbecinkciahaaGreat
attribute [local go_sem] zab zag
open Go.RowKit
theorem zja (A : Option Addr) (bs : List Int) (cap : Nat) (w : World) (hA : IntsAt w w.heap.size .u8 A bs) (hz : Within 0 255 bs) (hok : Dlt.okB bs 0) (hcap : bs.length ≤ cap) :
 Calls Tryz.prog 94 #[.slice A bs.length cap, .int .i64 0] w fun e w' => ∃ (A' : Option Addr) (c' : Nat), e = .returned (.tuple #[.slice A' 0 c', .agg #[.int .i64 (Dlt.dAt (Dlt.headS bs) bs 0).1, .int .i64 (Dlt.dAt (Dlt.headS bs) bs 0).2], .int .u8 0]) ∧
  IntsAt w' w'.heap.size .i16 A' (Dlt.unpackL bs 0) ∧ Below w.heap.size w w' := by
 have HVAL := H9 (Dlt.headS_valid bs 0 hok hz)
 obtain ⟨ok1, ok2, ok3, ok4⟩ := hok
 obtain ⟨b, off, rfl, hbB, qc⟩ := hA (by omega)
 have c0 := qc 0 (by omega)
 have c1 := qc 1 (by omega)
 have c2 := qc 2 (by omega)
 have c3 := qc 3 (by omega)
 obtain ⟨a0, a1⟩ := hz.at (i := 0) (by omega)
 obtain ⟨b0, b1⟩ := hz.at (i := 1) (by omega)
 obtain ⟨g0, g1⟩ := hz.at (i := 2) (by omega)
 have hb' : b ≠ w.heap.size := by omega
 have hb'' : b ≠ w.heap.size + 1 := by omega
 generalize hx0 : bs.getD 0 0 = x0 at *
 generalize hx1 : bs.getD 1 0 = x1 at *
 generalize hx2 : bs.getD 2 0 = x2 at *
 generalize hx3 : bs.getD 3 0 = x3 at *
 have HX3 := H9 (show bs.getD 3 0 = 0 by rw [hx3, ok3])
 subst ok3
 have HX0 := H9 hx0
 have HX1 := H9 hx1
 have HX2 := H9 hx2
 have HCELL := H9 qc
 have HZ := H9 hz
 generalize hM : bs.length = M at *
 have HMM := H9 hM
 clear hA hz qc hx0 hx1 hx2 hM
 obtain rfl : M = 4 := by omega
 clear ok1 ok4
 have cc0 : (w.alloc (.cells #[.int .i64 0, .int .i64 0] 24)).cell? ⟨b, off, none⟩ = some (.int .u8 x0) := (World.cell?_alloc_lt w _ _ hbB).trans c0
 have cc1 : (w.alloc (.cells #[.int .i64 0, .int .i64 0] 24)).cell? ⟨b, off + 1, none⟩ = some (.int .u8 x1) := (World.cell?_alloc_lt w _ _ hbB).trans c1
 have cc2 : (w.alloc (.cells #[.int .i64 0, .int .i64 0] 24)).cell? ⟨b, off + 2, none⟩ = some (.int .u8 x2) := (World.cell?_alloc_lt w _ _ hbB).trans c2
 have cc3 : (w.alloc (.cells #[.int .i64 0, .int .i64 0] 24)).cell? ⟨b, off + 3, none⟩ = some (.int .u8 0) := (World.cell?_alloc_lt w _ _ hbB).trans c3
 have cd0 : ((w.alloc (.cells #[.int .i64 0, .int .i64 0] 24)).alloc (.cells #[.int .i64 0, .int .i64 0] 24)).cell? ⟨b, off, none⟩ = some (.int .u8 x0) := (World.cell?_alloc_lt _ _ _ (by simp; omega)).trans ((World.cell?_alloc_lt w _ _ hbB).trans c0)
 have cd1 : ((w.alloc (.cells #[.int .i64 0, .int .i64 0] 24)).alloc (.cells #[.int .i64 0, .int .i64 0] 24)).cell? ⟨b, off + 1, none⟩ = some (.int .u8 x1) := (World.cell?_alloc_lt _ _ _ (by simp; omega)).trans ((World.cell?_alloc_lt w _ _ hbB).trans c1)
 have cd2 : ((w.alloc (.cells #[.int .i64 0, .int .i64 0] 24)).alloc (.cells #[.int .i64 0, .int .i64 0] 24)).cell? ⟨b, off + 2, none⟩ = some (.int .u8 x2) := (World.cell?_alloc_lt _ _ _ (by simp; omega)).trans ((World.cell?_alloc_lt w _ _ hbB).trans c2)
 clear c0 c1 c2 c3
 go_enter Tryz.func94, Tryz.ntmps94
 go_wp2_with fail
 refine (zbb 0 _ (by omega)).mono ?_
 rintro e w' ⟨rfl, rfl⟩
 go_wp2_with fail
 refine (zbb 0 _ (by omega)).mono ?_
 rintro e w' ⟨rfl, rfl⟩
 have HI2 := H9 zhc
 have hz89 := zjy
 all_goals
  go_wp2_with fail
  go_region
  go_wp2_with fail
  have hhw := zig x0 x1 a0 a1 b0 b1
  generalize wrap64 (IntKind.i16.wrap (bits BinOp.or IntKind.u16 (x0 * 256) x1)) = V0 at *
  refine (zeo _).mono ?_
  rintro e w3 ⟨rfl, hb3⟩
  have b0 : Blk ((w.alloc (.cells #[.int .i64 0, .int .i64 0] 24)).alloc (.cells #[.int .i64 V0, .int .i64 x2] 24)).drew w.heap.size 24 #[.int .i64 0, .int .i64 0] := ((Blk.new w _ _).alloc _).drew
  have b1 : Blk ((w.alloc (.cells #[.int .i64 0, .int .i64 0] 24)).alloc (.cells #[.int .i64 V0, .int .i64 x2] 24)).drew (w.heap.size + 1) 24 #[.int .i64 V0, .int .i64 x2] := by
   have h := Blk.new (w.alloc (.cells #[.int .i64 0, .int .i64 0] 24)) 24 #[.int .i64 V0, .int .i64 x2]
   rw [show (w.alloc (.cells #[.int .i64 0, .int .i64 0] 24)).heap.size = w.heap.size + 1 by simp] at h
   exact h.drew
  have hbw : Below w.heap.size w ((w.alloc (.cells #[.int .i64 0, .int .i64 0] 24)).alloc (.cells #[.int .i64 V0, .int .i64 x2] 24)).drew := (((Below.refl _ w).alloc (Nat.le_refl _) _).alloc (by simp) _).drew
  have hs3 : w.heap.size + 1 + 1 ≤ w3.heap.size := by have := hb3.size; simpa using this
  have HB0 := H9 ((b0.later hb3).later (zbk w3))
  have HB1 := H9 ((b1.later hb3).later (zbk w3))
  have HBW := H9 ((hbw.trans (hb3.mono hbw.size)).trans ((zbk w3).mono (by omega)))
  have HST := H9 (zed w3)
  have HT := H9 (zdc w3)
  have HSZ := H9 (zfj w3)
  have hmk := run_make_row' (P := Tryz.prog) 66 93 (.int .i16 0) 2 Tryz.underlying66 zor rfl .i64 .i64 0 (by omega) (by omega) (laidW w3)
  change (Instr.makeSlice 66 (.int .i64 0) (.int .i64 0)).run Tryz.prog _ = _ at hmk
  clear b0 b1 hbw hb3 cc0 cc1 cc2 cc3 cd0 cd1 cd2
  go_wp2_with (first
   | (refine wpList_store_mid rfl 198 (.tmp 9) (.tmp 82) (by rfl) w3.heap.size 0 Dlt.szA (by rfl) (by rfl) HT.out HI2.out zju ?_; change wpList _ _ _ _ _ (laidW w3); generalize laidW w3 = W4 at *; generalize w3.heap.size = gt at *; clear hz89 HT HI2)
   | fail)
  have HH : Hid (Dlt.headS bs = (V0, x2)) := H9 (by unfold Dlt.headS; rw [HX0.out, HX1.out, HX2.out, hhw])
  have HSV0 : Hid (Dlt.valid V0 x2 = true) := H9 (by have h := HVAL.out; rw [HH.out] at h; exact h)
  generalize hr : W4.heap.size = r at *
  have hs4 : w.heap.size + 1 + 1 ≤ r := by have := HSZ.out; omega
  have HSZ' := H9 HSZ.out
  clear hmk hhw
  go_loopw [86] (fun q wr => q = .int .i64 0 ∧ Blk wr w.heap.size 24 #[.int .i64 0, .int .i64 0] ∧
   Blk wr (w.heap.size + 1) 24 #[.int .i64 V0, .int .i64 x2] ∧ Below w.heap.size w wr)
   (fun q _ => 0)
  case atStart => exact ⟨rfl, HB0.out.alloc _, HB1.out.alloc _, HBW.out.alloc (by omega) _⟩
  case round =>
   obtain ⟨rfl, B0, B1, hb⟩ := hrel
   clear HB0 HB1 HST HBW
   have HHH := H9 (show Dlt.headS bs = (V0, x2) from HH.out)
   have HB := H9 hb
   have c0 := B1.at 0 _ rfl
   have c1 := B1.at 1 _ rfl
   have d0 := B0.at 0 _ rfl
   have d1 := B0.at 1 _ rfl
   have f0 := B0.frozen 0
   have f1 := B0.frozen 1
   clear B0 B1 hb
   go_wp2
   go_region
   go_wp2
   refine bodyPost_ret (v := .tuple #[.slice (some ⟨r, 0, none⟩) 0 0, .agg #[.int .i64 V0, .int .i64 x2], .int .u8 0]) (by simp [results, Tryz.results94, go_sem, d0, d1]) rfl ?_
   refine ⟨some ⟨r, 0, none⟩, 0, by rw [HHH.out]; rfl, ?_, ?_⟩
   · exact IntsAt.nil
   · exact ((HB.out.setCell (by simp) _).setCell (by simp) _).drew
def Dlt.rowK (s : Int × Int) (zs : List Int) (k : Nat) : List Value := (List.range (4 + (k + 1) / 2)).map fun j => Value.int .u8 (Dlt.packAt s zs k j)
theorem Dlt.rowK_even (s : Int × Int) (zs : List Int) (k : Nat) (h : k % 2 = 0) : Dlt.rowK s zs (k + 1) = Dlt.rowK s zs k ++ [.int .u8 (16 * Dlt.codeAt s zs k)] := by
 unfold Dlt.rowK
 rw [show 4 + (k + 1 + 1) / 2 = (4 + (k + 1) / 2) + 1 by omega, List.range_succ, List.map_append]
 congr 1
 · refine List.map_congr_left fun j hj => ?_
   have hj' : j < 4 + (k + 1) / 2 := by simpa using hj
   rw [Dlt.packAt_set, if_neg (by omega)]
 · rw [List.map_singleton, Dlt.packAt_set, if_pos (by omega), (Dlt.part_even s zs k h).2]
theorem Dlt.rowK_odd (s : Int × Int) (zs : List Int) (k : Nat) (h : k % 2 = 1) : Dlt.rowK s zs (k + 1) = (Dlt.rowK s zs k).set (4 + k / 2) (.int .u8 (16 * Dlt.codeAt s zs (k - 1) + Dlt.codeAt s zs k)) := by
 unfold Dlt.rowK
 rw [show 4 + (k + 1 + 1) / 2 = 4 + (k + 1) / 2 by omega]
 refine List.ext_getElem (by simp) fun j h1 h2 => ?_
 have hj : j < 4 + (k + 1) / 2 := by simpa using h1
 rw [List.getElem_set]
 simp only [List.getElem_map, List.getElem_range]
 rw [Dlt.packAt_set]
 by_cases e : j = 4 + k / 2
 · rw [if_pos e, if_pos e.symm, (Dlt.part_odd s zs k h).2]
 · rw [if_neg e, if_neg (fun h => e h.symm)]
theorem Dlt.rowK_last (s : Int × Int) (zs : List Int) (k : Nat) (h : k % 2 = 1) : (Dlt.rowK s zs k)[4 + k / 2]? = some (.int .u8 (16 * Dlt.codeAt s zs (k - 1))) := by
 unfold Dlt.rowK
 rw [List.getElem?_map, List.getElem?_range (by omega)]
 show some (Value.int .u8 (Dlt.packAt s zs k (4 + k / 2))) = _
 rw [Dlt.packAt_body, (Dlt.part_odd s zs k h).1]
theorem Dlt.rowK_all (s : Int × Int) (zs : List Int) : Dlt.rowK s zs zs.length = (Dlt.packB s zs).map (Value.int .u8) := by
 unfold Dlt.rowK Dlt.packB
 rw [List.map_map]
 rfl
theorem zqf (v i : Int) (A : Option Addr) (zs : List Int) (cap : Nat) (w : World) (hv : Dlt.valid v i = true) (hA : IntsAt w w.heap.size .i16 A zs) (hz : Within (-32768) 32767 zs) (h8 : zs.length ≤ 8000) :
 Calls Tryz.prog 86 #[.agg #[.int .i64 v, .int .i64 i], .slice A zs.length cap] w fun e w' => ∃ (A' : Option Addr) (c' : Nat), e = .returned (.tuple #[.slice A' (4 + (zs.length + 1) / 2) c', .agg #[.int .i64 (Dlt.stAt (v, i) zs zs.length).1, .int .i64 (Dlt.stAt (v, i) zs zs.length).2], .int .u8 0]) ∧
  IntsAt w' w'.heap.size .u8 A' (Dlt.packB (v, i) zs) ∧ Below w.heap.size w w' := by
 have hvv := zbs hv
 obtain ⟨g1, g2, g3, g4⟩ := hvv
 go_enter Tryz.func86, Tryz.ntmps86
 go_wp2_with fail
 refine (zcy v i _).mono ?_
 rintro e w' ⟨rfl, rfl⟩
 rw [hv]
 go_wp2_with fail
 rw [show (v + 65536) % 65536 = v % 65536 by omega]
 generalize hq : v % 65536 = q
 go_loopw [8, 9] (fun u q wr => ∃ (k : Nat) (A' : Option Addr) (c' n : Nat) (xs : List Value), k ≤ zs.length ∧ q = .int .i64 k ∧ u = .slice A' n c' ∧ Hid (n = 4 + (k + 1) / 2) ∧ Hid (xs = Dlt.rowK (v, i) zs k) ∧ Owns wr (w.heap.size + 1 + 1) 5 1 A' n c' xs ∧
  Blk wr w.heap.size 24 #[.int .i64 (Dlt.stAt (v, i) zs k).1, .int .i64 (Dlt.stAt (v, i) zs k).2] ∧
  Blk wr (w.heap.size + 1) 24 #[.int .i64 0, .int .i64 0] ∧ Below w.heap.size w wr)
  (fun _ q _ => zs.length - (intOf q).toNat)
 case atStart =>
  subst hq
  refine ⟨0, _, _, _, _, Nat.zero_le _, rfl, rfl, rfl, rfl, ?_, ?_, ?_, ?_⟩
  · have hs : (((w.alloc (.cells #[.int .i64 v, .int .i64 i] 24)).alloc (.cells #[.int .i64 0, .int .i64 0] 24)).alloc (.cells #[.int .i64 v, .int .i64 i] 24)).heap.size = w.heap.size + 1 + 1 + 1 := by simp
    have h := World.ownsRow_lit (base := w.heap.size + 1 + 1) (e := 5) (size := 1) (((w.alloc (.cells #[.int .i64 v, .int .i64 i] 24)).alloc (.cells #[.int .i64 0, .int .i64 0] 24)).alloc (.cells #[.int .i64 v, .int .i64 i] 24)) #[.int .u8 (v % 65536 / 256), .int .u8 (v % 256), .int .u8 i, .int .u8 0] 4 (by simp) (by unfold maxLen; omega) rfl
    have e0 : Dlt.rowK (v, i) zs 0 = [.int .u8 (v % 65536 / 256), .int .u8 (v % 256), .int .u8 i, .int .u8 0] := rfl
    rw [e0]
    rw [hs] at h
    exact h
  · exact (((Blk.new w _ _).alloc _).alloc _).alloc _
  · have h := Blk.new (w.alloc (.cells #[.int .i64 v, .int .i64 i] 24)) 24 #[.int .i64 0, .int .i64 0]
    rw [show (w.alloc (.cells #[.int .i64 v, .int .i64 i] 24)).heap.size = w.heap.size + 1 by simp] at h
    exact (h.alloc _).alloc _
  · exact ((((Below.refl _ w).alloc (Nat.le_refl _) _).alloc (by simp) _).alloc (by simp; omega) _).alloc (by simp; omega) _
 case round =>
  obtain ⟨k, A', c', n, xs, hk, rfl, rfl, HN, HX, qo, B0, B1, hb⟩ := hrel
  have HSV := H9 (Dlt.stAt_valid (v, i) hv zs k)
  by_cases hlt : k < zs.length
  · obtain ⟨b, off, rfl, hbB, qc⟩ := hA (by omega)
    have hzk := hz.at hlt
    have hck : wr.cell? ⟨b, off + k, none⟩ = some (.int .i16 (zs.getD k 0)) := (hb.cell (p := ⟨b, off + k, none⟩) hbB).trans (qc k hlt)
    have HS := H9 (Dlt.stAt_succ (v, i) zs k hlt)
    have hcd : Dlt.code (Dlt.stAt (v, i) zs k).1 (Dlt.stAt (v, i) zs k).2 (zs.getD k 0) = Dlt.codeAt (v, i) zs k := rfl
    obtain ⟨k0, k1⟩ := Dlt.codeAt_bd (v, i) zs k
    generalize hcc : Dlt.codeAt (v, i) zs k = c at *
    have HCC := H9 hcc
    generalize zs.getD k 0 = z at hck hzk hcd
    have HC := H9 hcd
    obtain ⟨z0, z1⟩ := hzk
    clear qc hcd hcc
    generalize hV : (Dlt.stAt (v, i) zs k).1 = V at *
    generalize hI : (Dlt.stAt (v, i) zs k).2 = I at *
    have HV := H9 hV
    have HI := H9 hI
    have c0 := B0.at 0 _ rfl
    have c1 := B0.at 1 _ rfl
    have HB0 := H9 B0
    have HB1 := H9 B1
    have HO := H9 qo
    have HB := H9 hb
    have hn0 : (0 : Int) ≤ (k : Int) := by omega
    have hn1 : (k : Int) < (zs.length : Int) := by omega
    clear B0 B1 hb hV hI qo
    go_wp2
    go_still_tail 5, (by kernel_rfl)
    change wpList _ _ _ _ _ wr.drew
    go_wp2_with fail
    refine (zmy V I z wr.drew HSV.out z0 z1).mono ?_
    rintro e w5 ⟨rfl, hb5⟩
    rw [HC.out]
    have HB05 := H9 (HB0.out.drew.later hb5)
    have HB15 := H9 (HB1.out.drew.later hb5)
    have HO5 := H9 (HO.out.drew.below hb5)
    have HBW5 := H9 (HB.out.drew.trans (hb5.mono HB.out.size))
    clear hb5 HB0 HB1 HO HB c0 c1 hck
    have c0 := HB05.out.at 0 _ rfl
    have c1 := HB05.out.at 1 _ rfl
    go_wp2_with fail
    refine (zmz V I c _ HSV.out k0 k1).mono ?_
    rintro e w6 ⟨rfl, hb6⟩
    have HB06 := H9 (HB05.out.later hb6)
    have HB16 := H9 (HB15.out.later hb6)
    have HO6 := H9 (HO5.out.below hb6)
    have HBW6 := H9 (HBW5.out.trans (hb6.mono HBW5.out.size))
    clear hb6 HB05 HB15 HO5 HBW5 c0 c1
    have c0 := HB06.out.at 0 _ rfl
    have c1 := HB06.out.at 1 _ rfl
    have f0 := HB06.out.frozen 0
    have f1 := HB06.out.frozen 1
    have hbs := HBW6.out.size
    have hbs2 := HB16.out.lt
    by_cases hpar : k % 2 = 0
    · have hpar' : (k : Int) % 2 = 0 := by omega
      have HP := H9 hpar
      have HM := H9 (show n = 4 + (k + 1) / 2 from HN.out)
      have HO7 : Hid (Owns ((w6.setCell ⟨w.heap.size, 0, none⟩ (.int .i64 (Dlt.nextV V I c))).setCell ⟨w.heap.size, 1, none⟩ (.int .i64 (Dlt.nextI I c))) (w.heap.size + 1 + 1) 5 1 A' n c' xs) :=
       H9 ((HO6.out.setCell (fun g hg => by have := (HO6.out.block g hg).1; simp; omega) _).setCell (fun g hg => by have := (HO6.out.block g hg).1; simp; omega) _)
      have hn2 : n ≤ 4004 := by rw [HN.out]; omega
      have HSZ : Hid (((w6.setCell ⟨w.heap.size, 0, none⟩ (.int .i64 (Dlt.nextV V I c))).setCell ⟨w.heap.size, 1, none⟩ (.int .i64 (Dlt.nextI I c))).heap.size = w6.heap.size) := H9 (by simp [World.setCell])
      clear hpar
      go_wp2_with (at_builtin; go_loud (refine zbl rfl _ _ 22 rfl (w.heap.size + 1 + 1) 5 1 1 (.int .u8 0) Tryz.underlying22 zrc rfl (by decide) A' n c' xs rfl HO7.out [.int .u8 (16 * c)] rfl (by simp [Value.oneCell']) (by rw [HSZ.out]; rfl) (by unfold maxLen; omega) (by omega) (by rw [HSZ.out]; omega) ?_); intro A2 c2 w2 hown2 hg2 hlt2)
      go_roundw
      case rel =>
       refine ⟨k + 1, A2, c2, n + 1, xs ++ [.int .u8 (16 * c)], by omega, by go_num, rfl, H9 (by rw [HN.out]; have := HP.out; omega), H9 (by rw [HX.out, Dlt.rowK_even _ _ _ HP.out, HCC.out]), hown2, ?_, ?_, ?_⟩
       · rw [HS.out]
         exact ((HB06.out.set_ 0 _).set_ 1 _).grown hg2 (fun h => by have := (HO7.out.block _ h.symm).1; omega)
       · exact ((HB16.out.far (by simp) _).far (by simp) _).grown hg2 (fun h => by have := (HO7.out.block _ h.symm).1; omega)
       · exact zcx ((HBW6.out.setCell (by simp) _).setCell (by simp) _) HO7.out hg2 (by simp; omega) (by omega)
      case measure => simp [intOf]; omega
    · have hpar' : (k : Int) % 2 = 1 := by omega
      have HP := H9 (show k % 2 = 1 by omega)
      obtain ⟨p0, p1⟩ := Dlt.codeAt_bd (v, i) zs (k - 1)
      have HL := Dlt.rowK_last (v, i) zs k HP.out
      rw [← HX.out] at HL
      have HO6' := Dlt.rowK_odd (v, i) zs k HP.out
      rw [HCC.out] at HO6'
      generalize Dlt.codeAt (v, i) zs (k - 1) = cp at *
      have HR := H9 HO6'
      clear HO6'
      obtain ⟨g, rfl, hg0, hg1⟩ := HO6.out.form (by rw [HN.out]; omega)
      obtain ⟨M, hM⟩ : ∃ M, M = 4 + k / 2 := ⟨_, rfl⟩
      obtain rfl : n = M + 1 := by rw [HN.out]; omega
      rw [← hM] at HL
      have HM := H9 hM
      have hM2 : M ≤ 4004 := by omega
      have hn3 : ((M + 1 : Nat) : Int) - 1 = (M : Int) := by omega
      have hrc : w6.cell? ⟨g, M, none⟩ = some (.int .u8 (16 * cp)) := by
       have h := World.ownsRow.cellAt HO6.out M (by omega)
       rw [h, HL]
      have hrf : w6.frozen? ⟨g, M, none⟩ = false := World.ownsRow.frozenAt HO6.out M
      have hd1 : w.heap.size ≠ g := by omega
      have hd2 : g ≠ w.heap.size := by omega
      clear hpar hM HL
      go_wp2
      go_roundw
      case rel =>
       have h := World.ownsRow.stored ((HO6.out.setCell (p := ⟨w.heap.size, 0, none⟩) (fun g' hg => by injection hg with hg; subst hg; simp; omega) (.int .i64 (Dlt.nextV V I c))).setCell (p := ⟨w.heap.size, 1, none⟩) (fun g' hg => by injection hg with hg; subst hg; simp; omega) (.int .i64 (Dlt.nextI I c))) M (.int .u8 (16 * cp + c))
       refine ⟨k + 1, some ⟨g, 0, none⟩, c', M + 1, xs.set M (.int .u8 (16 * cp + c)), by omega, by go_num, rfl, H9 (by rw [HM.out]; have := HP.out; omega), H9 (by rw [HR.out, HX.out, HM.out]), h.1, ?_, ?_, ?_⟩
       · rw [HS.out]
         exact ((HB06.out.set_ 0 _).set_ 1 _).far (by simp; omega) _
       · exact ((HB16.out.far (by simp) _).far (by simp) _).far (by simp; omega) _
       · exact ((HBW6.out.setCell (by simp) _).setCell (by simp) _).setCell (by simp; omega) _
      case measure => simp [intOf]; omega
  · obtain rfl : k = zs.length := by omega
    clear hA hz
    have HB0 := H9 B0
    have HB1 := H9 B1
    have HO := H9 qo
    have HB := H9 hb
    obtain ⟨g, rfl, hg0, hg1⟩ := qo.form (by rw [HN.out]; omega)
    generalize hV : (Dlt.stAt (v, i) zs zs.length).1 = V at *
    generalize hI : (Dlt.stAt (v, i) zs zs.length).2 = I at *
    have HV := H9 hV
    have HI := H9 hI
    have c0 := B0.at 0 _ rfl
    have c1 := B0.at 1 _ rfl
    have d0 := B1.at 0 _ rfl
    have d1 := B1.at 1 _ rfl
    have f0 := B1.frozen 0
    have f1 := B1.frozen 1
    clear B0 B1 hb hV hI qo
    go_wp2
    go_region
    go_wp2
    refine bodyPost_ret (v := .tuple #[.slice (some ⟨g, 0, none⟩) n c', .agg #[.int .i64 V, .int .i64 I], .int .u8 0]) (by simp [results, Tryz.results86, go_sem, d0, d1]) rfl ?_
    refine ⟨some ⟨g, 0, none⟩, c', by rw [HV.out, HI.out, HN.out], ?_, ?_⟩
    · have h : Owns _ (w.heap.size + 1 + 1) 5 1 (some ⟨g, 0, none⟩) n c' xs := ((HO.out.setCell (p := ⟨w.heap.size + 1, 0, none⟩) (fun g' hg => by injection hg with hg; subst hg; simp; omega) (.int .i64 V)).setCell (p := ⟨w.heap.size + 1, 1, none⟩) (fun g' hg => by injection hg with hg; subst hg; simp; omega) (.int .i64 I)).drew
      rw [HX.out, Dlt.rowK_all] at h
      exact h.ints
    · exact ((HB.out.setCell (by simp) _).setCell (by simp) _).drew
theorem zoa (v i : Int) (A : Option Addr) (n cap : Nat) (w : World) (hv : Dlt.valid v i = false) :
 Calls Tryz.prog 86 #[.agg #[.int .i64 v, .int .i64 i], .slice A n cap] w fun e w' => e = .returned (.tuple #[.slice none 0 0, .agg #[.int .i64 0, .int .i64 0], .int .u8 2]) ∧ Below w.heap.size w w' := by
 go_enter Tryz.func86, Tryz.ntmps86
 go_wp2_with fail
 refine (zcy v i _).mono ?_
 rintro e w' ⟨rfl, rfl⟩
 rw [hv]
 clear hv
 go_wp2_with fail
 refine bodyPost_ret (v := .tuple #[.slice none 0 0, .agg #[.int .i64 0, .int .i64 0], .int .u8 2]) (by simp [results, Tryz.results86, go_sem]) rfl ⟨rfl, ?_⟩
 repeat (first | exact Below.refl _ _ | refine Below.setCell ?_ (by simp) _ | refine Below.alloc ?_ (by simp; try omega) _)
theorem zmc (v i : Int) (A : Option Addr) (n cap : Nat) (w : World) (hv : Dlt.valid v i = true) (h8 : 8000 < n) :
 Calls Tryz.prog 86 #[.agg #[.int .i64 v, .int .i64 i], .slice A n cap] w fun e w' => e = .returned (.tuple #[.slice none 0 0, .agg #[.int .i64 0, .int .i64 0], .int .u8 4]) ∧ Below w.heap.size w w' := by
 go_enter Tryz.func86, Tryz.ntmps86
 go_wp2_with fail
 refine (zcy v i _).mono ?_
 rintro e w' ⟨rfl, rfl⟩
 rw [hv]
 clear hv
 go_wp2_with fail
 refine bodyPost_ret (v := .tuple #[.slice none 0 0, .agg #[.int .i64 0, .int .i64 0], .int .u8 4]) (by simp [results, Tryz.results86, go_sem]) rfl ⟨rfl, ?_⟩
 repeat (first | exact Below.refl _ _ | refine Below.setCell ?_ (by simp) _ | refine Below.alloc ?_ (by simp; try omega) _)
end Go.Proofs.YtahbecinkciahaaGreat
namespace Go.Proofs.YtahbecinkciahaaGreat
open Go.RowKit
def Dlt.encR (v i x : Int) : Int × Int × Int × Int := if Dlt.valid v i = true then (Dlt.code v i x, Dlt.nextV v i (Dlt.code v i x), Dlt.nextI i (Dlt.code v i x), 0) else (0, 0, 0, 2)
def Dlt.decR (v i c : Int) : Int × Int × Int × Int := if Dlt.valid v i = true then (if c ≤ 15 then (Dlt.nextV v i c, Dlt.nextV v i c, Dlt.nextI i c, 0) else (0, 0, 0, 3)) else (0, 0, 0, 2)
def Dlt.packR (v i : Int) (zs : List Int) : List Int × Int × Int × Int :=
 if Dlt.valid v i = true then (if zs.length ≤ 8000 then (Dlt.packB (v, i) zs, (Dlt.stAt (v, i) zs zs.length).1, (Dlt.stAt (v, i) zs zs.length).2, 0) else ([], 0, 0, 4)) else ([], 0, 0, 2)
def Dlt.unpR (bs : List Int) (n : Int) : List Int × Int × Int × Int :=
 if n < 0 ∨ 8000 < n then ([], 0, 0, 3) else if bs.length < 4 + (n.toNat + 1) / 2 then ([], 0, 0, 6) else
  if Dlt.okB bs n.toNat then (Dlt.unpackL bs n.toNat, (Dlt.dAt (Dlt.headS bs) bs n.toNat).1, (Dlt.dAt (Dlt.headS bs) bs n.toNat).2, 0) else ([], 0, 0, 5)
section
variable (v i x : Int) (w : World)
variable (A : Option Addr) (zs : List Int) (cap : Nat)
theorem zob (hA : IntsAt w w.heap.size .i16 A zs) (hz : Within (-32768) 32767 zs) :
 Calls Tryz.prog 86 #[.agg #[.int .i64 v, .int .i64 i], .slice A zs.length cap] w fun e w' => ∃ (A' : Option Addr) (c' : Nat), e = .returned (.tuple #[.slice A' (Dlt.packR v i zs).1.length c', .agg #[.int .i64 (Dlt.packR v i zs).2.1, .int .i64 (Dlt.packR v i zs).2.2.1], .int .u8 (Dlt.packR v i zs).2.2.2]) ∧
  IntsAt w' w'.heap.size .u8 A' (Dlt.packR v i zs).1 ∧ Below w.heap.size w w' := by
 unfold Dlt.packR
 by_cases hv : Dlt.valid v i = true
 · rw [if_pos hv]
   by_cases h8 : zs.length ≤ 8000
   · rw [if_pos h8]
     refine (zqf v i A zs cap w hv hA hz h8).mono ?_
     rintro e w' ⟨A', c', rfl, h⟩
     exact ⟨A', c', by rw [Dlt.packB_len], h⟩
   · rw [if_neg h8]
     refine (zmc v i A zs.length cap w hv (by omega)).mono ?_
     rintro e w' ⟨rfl, hb⟩
     exact ⟨none, 0, rfl, IntsAt.nil, hb⟩
 · rw [if_neg hv]
   refine (zoa v i A zs.length cap w (by simpa using hv)).mono ?_
   rintro e w' ⟨rfl, hb⟩
   exact ⟨none, 0, rfl, IntsAt.nil, hb⟩
variable (bs : List Int) (n : Int)
theorem Dlt.unpackL_len (bs : List Int) (n : Nat) : (Dlt.unpackL bs n).length = n := by simp [Dlt.unpackL]
end
end Go.Proofs.YtahbecinkciahaaGreat
namespace Go.Proofs.YtahbecinkciahaaGreat
attribute [local go_sem ↓] zac zad
attribute [local go_sem] zab zag
open Go.RowKit
def DecR (zs : List Int) (er : Int) (w : World) (e : Ending) (w' : World) : Prop := ∃ (A' : Option Addr) (c' : Nat), e = .returned (.tuple #[.slice A' zs.length c', .int .u8 er]) ∧ IntsNew w.heap.size w' .i16 A' zs ∧ Below w.heap.size w w'
theorem zjb (A : Option Addr) (bs : List Int) (cap : Nat) (n : Int) (w : World) (hA : IntsAt w w.heap.size .u8 A bs) (hz : Within 0 255 bs) (hcap : bs.length ≤ cap) (hmax : bs.length ≤ maxLen) :
 Calls Tryz.prog 94 #[.slice A bs.length cap, .int .i64 n] w fun e w' => ∃ (A' : Option Addr) (c' : Nat), e = .returned (.tuple #[.slice A' (Dlt.unpR bs n).1.length c', .agg #[.int .i64 (Dlt.unpR bs n).2.1, .int .i64 (Dlt.unpR bs n).2.2.1], .int .u8 (Dlt.unpR bs n).2.2.2]) ∧
  IntsNew w.heap.size w' .i16 A' (Dlt.unpR bs n).1 ∧ Below w.heap.size w w' := by
 unfold Dlt.unpR
 by_cases hr : n < 0 ∨ 8000 < n
 · rw [if_pos hr]
   refine (zih n A bs.length cap w hr).mono ?_
   rintro e w' ⟨rfl, hb⟩
   exact ⟨none, 0, rfl, IntsNew.nil, hb⟩
 · rw [if_neg hr]
   obtain ⟨m, rfl⟩ := Int.eq_ofNat_of_zero_le (a := n) (by omega)
   rw [Int.toNat_natCast]
   by_cases hs : bs.length < 4 + (m + 1) / 2
   · rw [if_pos hs]
     refine (zii m A bs.length cap w (by omega) hs).mono ?_
     rintro e w' ⟨rfl, hb⟩
     exact ⟨none, 0, rfl, IntsNew.nil, hb⟩
   · rw [if_neg hs]
     by_cases hk : Dlt.okB bs m
     · rw [if_pos hk]
       rcases Nat.eq_zero_or_pos m with h0 | h0
       · subst h0
         refine (zja A bs cap w hA hz hk hcap).mono ?_
         rintro e w' ⟨A', c', rfl, h, hb⟩
         exact ⟨A', c', rfl, ⟨h, fun h0 => absurd h0 (by simp [Dlt.unpackL])⟩, hb⟩
       · refine (zmo m A bs cap w (by omega) h0 hA hz hk hcap).mono ?_
         rintro e w' ⟨A', c', rfl, h⟩
         exact ⟨A', c', by rw [Dlt.unpackL_len], h⟩
     · rw [if_neg hk]
       refine (zhd m A bs cap w (by omega) hA hz (by omega) hk hmax).mono ?_
       rintro e w' ⟨rfl, hb⟩
       exact ⟨none, 0, rfl, IntsNew.nil, hb⟩
theorem ztp (n : Int) (A : Option Addr) (bs : List Int) (c b : Nat) (w : World) (hA : IntsAt w w.heap.size .u8 A bs) (hz : Within 0 255 bs) (h8 : bs.length ≤ 8000) (hb : Blk w b 5 #[.int .u8 1]) : Calls Tryz.prog 138 #[.slice A bs.length c, .int .i64 n, .pointer (some ⟨b, 0, none⟩)] w (DecR (bs.map Cmp.fromMuZ) 0 w) := by
 have k1 := H9 fun (W : World) hW => zmn A bs c W hW hz h8
 have IA := H9 hA
 have BB := H9 hb
 have hlt := hb.lt
 clear hA hb hz
 go_enter Tryz.func138, Tryz.ntmps138
 have d0 := BB.out.at 0 _ rfl
 go_wp2_with fail
 refine (k1.out _ IA.out).mono ?_
 rintro e w1 ⟨A1, rfl, hI, hb1⟩
 clear d0
 go_wp2_with fail
 exact bodyPost_ret (v := .tuple #[.slice A1 bs.length bs.length, .int .u8 0]) (by simp [results, Tryz.results138, go_sem]) rfl ⟨A1, bs.length, by rw [List.length_map], hI, hb1⟩
theorem zua (n : Int) (A : Option Addr) (bs : List Int) (c b : Nat) (w : World) (hA : IntsAt w w.heap.size .u8 A bs) (hz : Within 0 255 bs) (h8 : bs.length ≤ 8000) (hb : Blk w b 5 #[.int .u8 2]) : Calls Tryz.prog 138 #[.slice A bs.length c, .int .i64 n, .pointer (some ⟨b, 0, none⟩)] w (DecR (bs.map Cmp.fromAZ) 0 w) := by
 have k1 := H9 fun (W : World) hW => zos A bs c W hW hz h8
 have IA := H9 hA
 have BB := H9 hb
 have hlt := hb.lt
 clear hA hb hz
 go_enter Tryz.func138, Tryz.ntmps138
 have d0 := BB.out.at 0 _ rfl
 go_wp2_with fail
 refine (k1.out _ IA.out).mono ?_
 rintro e w1 ⟨A1, rfl, hI, hb1⟩
 clear d0
 go_wp2_with fail
 exact bodyPost_ret (v := .tuple #[.slice A1 bs.length bs.length, .int .u8 0]) (by simp [results, Tryz.results138, go_sem]) rfl ⟨A1, bs.length, by rw [List.length_map], hI, hb1⟩
theorem zsj (n : Int) (A : Option Addr) (bs : List Int) (c : Nat) (w : World) (hA : IntsAt w w.heap.size .u8 A bs) (hz : Within 0 255 bs) (hc : bs.length ≤ c) (hm : bs.length ≤ maxLen) : Calls Tryz.prog 93 #[.slice A bs.length c, .int .i64 n] w (DecR (Dlt.unpR bs n).1 (Dlt.unpR bs n).2.2.2 w) := by
 have k1 := H9 fun (W : World) hW => zjb A bs c n W hW hz hc hm
 generalize Dlt.unpR bs n = R at *
 obtain ⟨R1, R2, R3, R4⟩ := R
 have IA := H9 hA
 clear hA hz
 go_enter Tryz.func93, Tryz.ntmps93
 go_wp2_with fail
 refine (k1.out _ IA.out).mono ?_
 rintro e w1 ⟨A1, c1, rfl, hI, hb1⟩
 have HI := H9 hI
 have U := H9 hb1
 clear hI hb1
 go_wp2_with fail
 go_ret2
 exact ⟨A1, c1, rfl, HI.out.push _, Bel.push U.out _⟩
def DecodeR (d : List Int × Int) (w : World) (e : Ending) (w' : World) : Prop := ∃ (A' : Option Addr) (c' : Nat), e = .returned (.tuple #[.slice A' d.1.length c', .int .u32 d.2]) ∧ IntsNew w.heap.size w' .i16 A' d.1 ∧ Below w.heap.size w w'
theorem ztq (bs : List Int) : (Dlt.unpR bs 160).1 = Sb.decS 96 bs ∧ ((Dlt.unpR bs 160).2.2.2 ≠ 0 → (Dlt.unpR bs 160).1 = []) := by
 have e : Sb.decS 96 bs = if Sb.Dlt.fits bs 160 then Dlt.unpackL bs 160 else [] := by unfold Sb.decS; rw [if_neg (by decide), if_neg (by decide), if_pos rfl]
 rw [e]
 unfold Dlt.unpR
 rw [if_neg (by decide), show (160 : Int).toNat = 160 from rfl]
 by_cases h1 : bs.length < 4 + (160 + 1) / 2
 · rw [if_pos h1, if_neg (fun h => by have := h.1; omega)]
   exact ⟨rfl, fun _ => rfl⟩
 rw [if_neg h1]
 by_cases h2 : Dlt.okB bs 160
 · rw [if_pos h2, if_pos (show Sb.Dlt.fits bs 160 from h2)]
   exact ⟨rfl, fun h => absurd rfl h⟩
 · rw [if_neg h2, if_neg (show ¬Sb.Dlt.fits bs 160 from h2)]
   exact ⟨rfl, fun _ => rfl⟩
theorem zoc (A : Option Addr) (bs : List Int) (c : Nat) (seed : Int) (w : World) (hA : IntsAt w w.heap.size .u8 A bs) (hz : Within 0 255 bs) (h8 : bs.length ≤ 8000) (h1 : bs.length ≠ 1) : Calls Tryz.prog 112 #[.int .u8 13, .slice A bs.length c, .int .u32 seed] w (DecodeR ([], seed) w) := by
 have hl1 : ¬(bs.length : Int) = 1 := by omega
 clear hA hz
 go_enter Tryz.func112, Tryz.ntmps112
 go_wp2_with fail
 go_ret2
 exact ⟨none, 0, rfl, IntsNew.nil, Below.refl _ _⟩
theorem zod (A : Option Addr) (bs : List Int) (c : Nat) (seed : Int) (w : World) (hA : IntsAt w w.heap.size .u8 A bs) (hz : Within 0 255 bs) (h8 : bs.length ≤ 8000) (h1 : bs.length = 1) (s0 : 0 ≤ seed) (s1 : seed ≤ 4294967295) : Calls Tryz.prog 112 #[.int .u8 13, .slice A bs.length c, .int .u32 seed] w (DecodeR ((Ev.noise (bs.getD 0 0) seed 160).1, (Ev.noise (bs.getD 0 0) seed 160).2.1) w) := by
 obtain ⟨x, rfl⟩ : ∃ x, bs = [x] := by
  match bs, h1 with
  | [x], _ => exact ⟨x, rfl⟩
 obtain ⟨x0, x1⟩ := hz x (by simp)
 obtain ⟨b, off, rfl, hbB, qc⟩ := hA (by simp)
 have c0 := qc 0 (by simp)
 have k1 := H9 fun (W : World) => zot x seed W 160 x0 x1 s0 s1 (by omega)
 have e : ((Ev.noise ([x].getD 0 0) seed 160).1, (Ev.noise ([x].getD 0 0) seed 160).2.1) = ((List.range 160).map (fun k => Ev.nsamp (Ev.amp (x / 6).toNat) seed k), Ev.seed seed 160) := by
  show ((Ev.noise x seed 160).1, (Ev.noise x seed 160).2.1) = _
  unfold Ev.noise
  rw [if_neg (by decide)]; rfl
 rw [e]
 clear qc e hz h1
 simp only [List.getD_cons_zero, Nat.add_zero] at c0
 go_enter Tryz.func112, Tryz.ntmps112
 go_wp2_with fail
 refine (k1.out _).mono ?_
 rintro e w1 ⟨A1, c1, rfl, hI, hb1⟩
 go_wp2_with fail
 go_ret2
 exact ⟨A1, c1, by simp, hI, hb1⟩
theorem zoe (A : Option Addr) (bs : List Int) (c : Nat) (seed : Int) (w : World) (hA : IntsAt w w.heap.size .u8 A bs) (hz : Within 0 255 bs) (h8 : bs.length ≤ 8000) : Calls Tryz.prog 112 #[.int .u8 0, .slice A bs.length c, .int .u32 seed] w (DecodeR (bs.map Cmp.fromMuZ, seed) w) := by
 have HA := H9 hA
 clear hA
 go_enter Tryz.func112, Tryz.ntmps112
 go_wp2_with fail
 refine (zbw _).mono ?_
 rintro e w1 ⟨b, b1, b2, rfl, C, hb1⟩
 have kl := (zbr C 0 (by omega) (by omega)).2
 have BL := H9 C.l1
 have HB := H9 hb1
 have IA := H9 ((HA.out.later hb1).push (.cells (cLaw b1).cells 97))
 rw [show cAt b1 b2 0 = cLaw b1 from rfl, show speechB 0 = true from rfl] at kl
 simp only [cLaw, cDel] at kl
 clear C hb1 HA
 have BL2 := H9 (BL.out.push (.cells (cLaw b1).cells 97))
 go_wp2_with fail
 refine (ztp 160 A bs c b1 _ IA.out hz h8 BL2.out).mono ?_
 rintro e w2 ⟨A1, c1, rfl, hI, hb2⟩
 have hs := HB.out.size
 have HI := H9 (hI.less (m := w.heap.size) (by rw [zbg]; omega))
 have U := H9 (((Bel.later (Bel.refl w) HB.out).push (.cells (cLaw b1).cells 97)).later hb2)
 clear hI hb2 HB
 go_wp2_with fail
 go_ret2
 exact ⟨A1, c1, by simp, HI.out, U.out⟩
theorem zqg (A : Option Addr) (bs : List Int) (c : Nat) (seed : Int) (w : World) (hA : IntsAt w w.heap.size .u8 A bs) (hz : Within 0 255 bs) (h8 : bs.length ≤ 8000) : Calls Tryz.prog 112 #[.int .u8 8, .slice A bs.length c, .int .u32 seed] w (DecodeR (bs.map Cmp.fromAZ, seed) w) := by
 have HA := H9 hA
 clear hA
 go_enter Tryz.func112, Tryz.ntmps112
 go_wp2_with fail
 refine (zbw _).mono ?_
 rintro e w1 ⟨b, b1, b2, rfl, C, hb1⟩
 have kl := (zbr C 8 (by omega) (by omega)).2
 have BL := H9 C.l2
 have HB := H9 hb1
 have IA := H9 ((HA.out.later hb1).push (.cells (cLaw b2).cells 97))
 rw [show cAt b1 b2 8 = cLaw b2 from rfl, show speechB 8 = true from rfl] at kl
 simp only [cLaw, cDel] at kl
 clear C hb1 HA
 have BL2 := H9 (BL.out.push (.cells (cLaw b2).cells 97))
 go_wp2_with fail
 refine (zua 160 A bs c b2 _ IA.out hz h8 BL2.out).mono ?_
 rintro e w2 ⟨A1, c1, rfl, hI, hb2⟩
 have hs := HB.out.size
 have HI := H9 (hI.less (m := w.heap.size) (by rw [zbg]; omega))
 have U := H9 (((Bel.later (Bel.refl w) HB.out).push (.cells (cLaw b2).cells 97)).later hb2)
 clear hI hb2 HB
 go_wp2_with fail
 go_ret2
 exact ⟨A1, c1, by simp, HI.out, U.out⟩
theorem zmd (A : Option Addr) (bs : List Int) (c : Nat) (seed : Int) (w : World) (hA : IntsAt w w.heap.size .u8 A bs) (hz : Within 0 255 bs) (h8 : bs.length ≤ 8000) (hc : bs.length ≤ c) : Calls Tryz.prog 112 #[.int .u8 96, .slice A bs.length c, .int .u32 seed] w (DecodeR (Sb.decS 96 bs, seed) w) := by
 have HA := H9 hA
 clear hA
 have hm : bs.length ≤ maxLen := by unfold maxLen; omega
 obtain ⟨un1, un2⟩ := ztq bs
 go_enter Tryz.func112, Tryz.ntmps112
 go_wp2_with fail
 refine (zbw _).mono ?_
 rintro e w1 ⟨b, b1, b2, rfl, C, hb1⟩
 have kl := (zbr C 96 (by omega) (by omega)).2
 have HB := H9 hb1
 have IA := H9 ((HA.out.later hb1).push (.cells cDel.cells 97))
 rw [show cAt b1 b2 96 = cDel from rfl, show speechB 96 = true from rfl] at kl
 simp only [cLaw, cDel] at kl
 clear C hb1 HA
 go_wp2_with fail
 refine (zsj 160 A bs c _ IA.out hz hc hm).mono ?_
 rintro e w2 ⟨A1, c1, rfl, hI, hb2⟩
 have hs := HB.out.size
 have HI := H9 (hI.less (m := w.heap.size) (by rw [zbg]; omega))
 have U := H9 (((Bel.later (Bel.refl w) HB.out).push (.cells cDel.cells 97)).later hb2)
 clear hI hb2 HB
 generalize Dlt.unpR bs 160 = R at *
 obtain ⟨R1, R2, R3, R4⟩ := R
 replace un1 : R1 = Sb.decS 96 bs := un1
 subst un1
 by_cases h4 : R4 = 0
 rotate_left
 · have e4 := H9 (show Sb.decS 96 bs = [] from un2 h4)
   clear un2
   go_wp2_with fail
   go_ret2
   exact ⟨none, 0, by rw [e4.out]; rfl, by rw [e4.out]; exact IntsNew.nil, U.out⟩
 subst h4
 clear un2
 go_wp2_with fail
 go_ret2
 exact ⟨A1, c1, by simp, HI.out, U.out⟩
theorem zof (A : Option Addr) (bs : List Int) (c : Nat) (seed : Int) (w : World) (hA : IntsAt w w.heap.size .u8 A bs) (hz : Within 0 255 bs) (h8 : bs.length ≤ 8000) (k : Int) (hk0 : 0 ≤ k) (hk1 : k ≤ 255) (h13 : ¬k = 13) (hs : ¬(k = 0 ∨ k = 8 ∨ k = 96)) : Calls Tryz.prog 112 #[.int .u8 k, .slice A bs.length c, .int .u32 seed] w (DecodeR ([], seed) w) := by
 have HA := H9 hA
 clear hA
 go_enter Tryz.func112, Tryz.ntmps112
 go_wp2_with fail
 refine (zbw _).mono ?_
 rintro e w1 ⟨b, b1, b2, rfl, C, hb1⟩
 have kl := (zbr C k (by omega) (by omega)).2
 have HB := H9 hb1
 have IA := H9 ((HA.out.later hb1).push (.cells cNil.cells 97))
 rw [show cAt b1 b2 k = cNil by unfold cAt; rw [if_neg (by omega), if_neg (by omega), if_neg (by omega)], zdo hs] at kl
 simp only [cNil] at kl
 clear C hb1 HA
 go_wp2_with fail
 go_ret2
 exact ⟨none, 0, rfl, IntsNew.nil, (Bel.later (Bel.refl w) HB.out).push _⟩
theorem zjc (k : Int) (A : Option Addr) (bs : List Int) (c : Nat) (seed : Int) (w : World) (hA : IntsAt w w.heap.size .u8 A bs) (hz : Within 0 255 bs) (h8 : bs.length ≤ 8000) (hk0 : 0 ≤ k) (hk1 : k ≤ 255) (s0 : 0 ≤ seed) (s1 : seed ≤ 4294967295) (hc : k = 96 → bs.length ≤ c) : Calls Tryz.prog 112 #[.int .u8 k, .slice A bs.length c, .int .u32 seed] w (DecodeR (Sb.dec k bs seed) w) := by
 unfold Sb.dec
 by_cases h13 : k = 13
 · subst h13
   rw [if_pos rfl]
   by_cases h1 : bs.length = 1
   · rw [if_pos h1]; exact zod A bs c seed w hA hz h8 h1 s0 s1
   · rw [if_neg h1]; exact zoc A bs c seed w hA hz h8 h1
 rw [if_neg h13]
 by_cases h0 : k = 0
 · subst h0; exact zoe A bs c seed w hA hz h8
 by_cases h2 : k = 8
 · subst h2; exact zqg A bs c seed w hA hz h8
 by_cases h3 : k = 96
 · subst h3; exact zmd A bs c seed w hA hz h8 (hc rfl)
 have e : Sb.decS k bs = [] := by unfold Sb.decS; rw [if_neg h0, if_neg h2, if_neg h3]
 rw [e]
 exact zof A bs c seed w hA hz h8 k hk0 hk1 h13 (by omega)
theorem SOwn.drew {w : World} {base n c : Nat} {A : Option Addr} {l : List TS} (h : SOwn w base A n c l) : SOwn w.drew base A n c l := ⟨h.len, h.own, h.pay, h.far, h.new⟩
theorem PB.set {W : World} {g : Nat} {p : Sb.Pt} {A : Option Addr} {n c : Nat} (h : PB W g p A n c) (i : Nat) (v : Value) (p' : Sb.Pt) (hp : (PL p A n c).set i v = PL p' A n c) : PB (W.setCell ⟨g, i, none⟩ v) g p' A n c := by
 have := Blk.set_ h i v
 unfold PB PA
 rw [← hp]
 unfold PA at this
 simpa using this
structure OkP (a : TW) : Prop where
 t0 : 0 ≤ a.w.m.ty
 t1 : a.w.m.ty ≤ 255
 z : Within 0 255 a.w.m.pl
 len : a.w.m.pl.length ≤ 8000
 cap : a.w.m.ty = 96 → a.w.m.pl.length ≤ a.c
theorem zel (k : Int) (pl : List Int) (s : Int) (h0 : 0 ≤ s) (h1 : s ≤ 4294967295) : 0 ≤ (Sb.dec k pl s).2 ∧ (Sb.dec k pl s).2 ≤ 4294967295 := by
 unfold Sb.dec
 split
 · split
   · have e : (Ev.noise (pl.getD 0 0) s 160).2.1 = Ev.seed s 160 := by unfold Ev.noise; rw [if_neg (by decide)]; rfl
     show 0 ≤ (Ev.noise (pl.getD 0 0) s 160).2.1 ∧ (Ev.noise (pl.getD 0 0) s 160).2.1 ≤ 4294967295
     rw [e]
     exact Sb.noise_seed 0 s h0 h1 160
   · exact ⟨h0, h1⟩
 · exact ⟨h0, h1⟩
theorem zcg : ∀ (l : List Jb.Wt) (s : Int), 0 ≤ s → s ≤ 4294967295 → 0 ≤ (Sb.sounds s l).1 ∧ (Sb.sounds s l).1 ≤ 4294967295
 | [], s, h0, h1 => ⟨h0, h1⟩
 | a :: l, s, h0, h1 => by
   have h := zel a.m.ty a.m.pl s h0 h1
   exact zcg l _ h.1 h.2
def SoundsR (p : Sb.Pt) (A : Option Addr) (n c : Nat) (l : List TW) (w : World) (e : Ending) (w' : World) : Prop :=
 ∃ (A' : Option Addr) (c' : Nat) (ls : List TS), e = .returned (.tuple #[.agg (PA { p with seed := (Sb.sounds p.seed (l.map TW.w)).1 } A n c), .slice A' l.length c']) ∧ ls.map TS.s = (Sb.sounds p.seed (l.map TW.w)).2 ∧ SOwn w' (w.heap.size + 3) A' l.length c' ls ∧ Below w.heap.size w w'
theorem zfx (p : Sb.Pt) (s0 : 0 ≤ p.seed) (s1 : p.seed ≤ 4294967295) (A : Option Addr) (n c : Nat) (X : Array Value) (hX : X = PA p A n c) (PA1 : Option Addr) (l : List TW) (m pc : Nat) (w : World) (hm : l.length = m) (hml : m ≤ 100000) (hA : Wts w w.heap.size PA1 l) (hok : ∀ a ∈ l, OkP a) : Calls Tryz.prog 47 #[.agg X, .slice PA1 m pc] w (SoundsR p A n c l w) := by
 subst hm
 have HA := H9 hA
 have HP := H9 hok
 clear hA hok
 have B0 := H9 (((PB.new w X hX).push (.cells (PA Sb.Pt.zero none 0 0) 48)).push (.cells #[.slice none 0 0] 54))
 have B1 := H9 ((Blk.new1 w (.cells X 48) 48 (PA Sb.Pt.zero none 0 0)).push (.cells #[.slice none 0 0] 54))
 have B2 := H9 (Blk.new2 w (.cells X 48) (.cells (PA Sb.Pt.zero none 0 0) 48) 54 #[.slice none 0 0])
 have U0 := H9 ((((Bel.refl w).push (.cells X 48)).push (.cells (PA Sb.Pt.zero none 0 0) 48)).push (.cells #[.slice none 0 0] 54))
 have hmf : ∀ (fn : Fn) (first cap : Array Value) (w : World), (Instr.makeFunc fn first cap).run Tryz.prog w = .ok (.func fn first cap) w := fun _ _ _ _ => rfl
 have HS0 := H9 (show (0 : Int) ≤ p.seed ∧ p.seed ≤ 4294967295 from ⟨s0, s1⟩)
 clear hX s0 s1
 go_enter Tryz.func47, Tryz.ntmps47
 go_upto_region 2 with fail
 obtain ⟨W0, hW0⟩ : ∃ W, W = ((w.alloc (Obj.cells X 48)).alloc (Obj.cells (PA Sb.Pt.zero none 0 0) 48)).alloc (Obj.cells #[.slice none 0 0] 54) := ⟨_, rfl⟩
 change Code.wp _ _ _ _ (((w.alloc (Obj.cells X 48)).alloc (Obj.cells (PA Sb.Pt.zero none 0 0) 48)).alloc (Obj.cells #[.slice none 0 0] 54))
 rw [← hW0] at B0 B1 B2 U0 ⊢
 clear hW0
 go_upto_region 3 with fail
 go_wp2_with fail
 go_loopg [15] l.length (fun gk i wr => ∃ (k : Nat) (A' : Option Addr) (c' : Nat) (ls : List TS), gk + k = l.length ∧ i = .int .i64 k ∧ Hid (ls.map TS.s = (Sb.sounds p.seed ((l.map TW.w).take k)).2) ∧ Hid (SOwn wr (w.heap.size + 3) A' k c' ls) ∧ Hid (PB wr w.heap.size { p with seed := (Sb.sounds p.seed ((l.map TW.w).take k)).1 } A n c) ∧ Hid (Blk wr (w.heap.size + 1) 48 (PA Sb.Pt.zero none 0 0)) ∧ Hid (Blk wr (w.heap.size + 1 + 1) 54 #[.slice A' k c']) ∧ Hid (Bel w wr))
 case atStart => exact ⟨0, none, 0, [], rfl, rfl, H9 rfl, H9 SOwn.nil, B0, B1, B2, U0⟩
 case round =>
  obtain ⟨k, A', c', ls, hgk, rfl, HL, HO, B0, B1, B2, U⟩ := hrel
  have hi0 : (0 : Int) ≤ (k : Int) := by omega
  have hbs := B2.out.lt
  by_cases hk : k < l.length
  rotate_left
  · obtain rfl : k = l.length := by omega
    have hi1 : (l.length : Int) ≤ (l.length : Int) := Int.le_refl _
    rw [List.take_of_length_le (by simp)] at HL B0
    go_upto_region 10 with fail
    obtain ⟨q, hq⟩ : ∃ q : Sb.Pt, q = { p with seed := (Sb.sounds p.seed (l.map TW.w)).1 } := ⟨_, rfl⟩
    rw [← hq] at B0
    have HQ := H9 hq
    have V1 : Blk wr.drew (w.heap.size + 1) 48 (PL Sb.Pt.zero none 0 0).toArray := Blk.dr B1.out
    have VO : SOwn wr.drew (w.heap.size + 3) A' l.length c' ls := HO.out.drew
    have VU : Bel w wr.drew := Bel.drew U.out
    clear hq
    refine wp_region_held_drew (S := fun w' => Blk w' w.heap.size 48 (PL q A n c).toArray ∧ Blk w' (w.heap.size + 1 + 1) 54 #[.slice A' l.length c']) (by kernel_rfl) ⟨Blk.dr B0.out, Blk.dr B2.out⟩ (fun qH => ?_)
    refine tk1 (i := 0) (v := .agg (PA q A n c)) rfl (zau rfl 48 (.tmp 2) rfl w.heap.size 0 rfl 48 (PL q A n c) (fun w h => h.1) 48 _ Tryz.underlying48 zah (Nat.le_refl 48) _ rfl rfl) qH ?_
    try simp only [ss9]
    refine tk1 (i := 1) (v := .slice A' l.length c') rfl (Or.inl ⟨by rfl, fun w h => by have c2 := h.2.at 0 _ rfl; clear h; go_simp; try with_reducible rfl⟩) qH ?_
    try simp only [ss9]
    refine wpAnyH_ready (rs := [2]) (by kernel_rfl) (by simp) ?_
    refine AllReadyH.cons (o := _) rfl (fun K hK => ?_) AllReadyH.nil
    refine zan rfl 48 (.tmp 4) (.tmp 39) rfl (w.heap.size + 1) 0 rfl 48 _ V1 (PL q A n c) rfl zah (Nat.le_refl 48) rfl (PL q A n c) rfl ?_
    intro WF BF OF
    refine hK.out _ _ ⟨OF.blk qH.1 (by omega), OF.blk qH.2 (by omega)⟩ (fun hHeld2 => ?_)
    clear hK K
    try simp only [ss9]
    refine tk1 (i := 3) (v := .slice A' l.length c') rfl (Or.inl ⟨by rfl, fun w _ => by go_simp; try with_reducible rfl⟩) hHeld2 ?_
    try simp only [ss9]
    refine wpAnyH_done (by kernel_rfl) ?_ _
    go_wp2_with fail
    refine bodyPost_ret (v := .tuple #[.agg (PA q A n c), .slice A' l.length c']) (zat Tryz.results47 rfl (PB.load BF) rfl) rfl ⟨A', c', ls, by rw [HQ.out], HL.out, VO.only OF (by omega), OF.bel VU (by omega)⟩
  have hi1 : (k : Int) < (l.length : Int) := by omega
  obtain ⟨a, ha⟩ : ∃ a, l[k]? = some a := ⟨_, List.getElem?_eq_getElem hk⟩
  obtain ⟨b, off, rfl, hbB, e0, e1, e2, e3, e4, e5⟩ := zcj (HA.out.1.keep (fun p hp => U.out.cell hp)) ha
  have hpa := HP.out a (List.mem_of_getElem? ha)
  have hia := (HA.out.2 a (List.mem_of_getElem? ha)).keep (w' := wr) (fun p hp => U.out.cell hp)
  have hm : (l.map TW.w)[k]? = some a.w := by rw [List.getElem?_map, ha]; rfl
  have HM := H9 hm
  have hsd := zcg ((l.map TW.w).take k) p.seed HS0.out.1 HS0.out.2
  obtain ⟨⟨at0, ⟨sq0, ti0, mk0, ty0, pl0⟩⟩, S0, c0⟩ := a
  obtain ⟨t0, t1, tz, tl, tc⟩ := hpa
  simp only at e0 e1 e2 e3 e4 e5 t0 t1 tz tl tc hia HM
  have hsn : Hid (Sb.sounds p.seed ((l.map TW.w).take (k + 1)) = ((Sb.dec ty0 pl0 (Sb.sounds p.seed ((l.map TW.w).take k)).1).2, (Sb.sounds p.seed ((l.map TW.w).take k)).2 ++ [⟨at0, (Sb.dec ty0 pl0 (Sb.sounds p.seed ((l.map TW.w).take k)).1).1, []⟩])) := H9 (by rw [Sb.take_snoc HM.out, Sb.sounds_snoc])
  generalize Sb.sounds p.seed ((l.map TW.w).take k) = R at *
  obtain ⟨R1, R2⟩ := R
  simp only at hsd hsn HL B0
  obtain ⟨d0, d1⟩ := hsd
  have k1 := H9 fun (W : World) hW => zjc ty0 S0 pl0 c0 R1 W hW tz tl t0 t1 d0 d1 tc
  have hds := H9 (zel ty0 pl0 R1 d0 d1)
  generalize Sb.dec ty0 pl0 R1 = D at *
  obtain ⟨D1, D2⟩ := D
  have IA := H9 (hia.more (Nat.le_trans (Nat.le_refl _) U.out.size))
  clear ha hm hia tz tl tc t0 t1
  have BX := H9 (Blk.new wr 105 #[.int .i64 at0, .int .i64 sq0, .int .i64 ti0, .bool mk0, .int .u8 ty0, .slice S0 pl0.length c0])
  obtain ⟨W1, hW1⟩ : ∃ W, W = wr.alloc (.cells #[.int .i64 at0, .int .i64 sq0, .int .i64 ti0, .bool mk0, .int .u8 ty0, .slice S0 pl0.length c0] 105) := ⟨_, rfl⟩
  have BB := H9 (show Below wr.heap.size wr W1 by rw [hW1]; exact (Below.refl _ _).alloc (Nat.le_refl _) _)
  rw [← hW1] at BX
  go_upto_region 6 with fail
  rw [← hW1]
  clear hW1 e0 e1 e2 e3 e4 e5
  replace B0 := H9 (B0.out.later BB.out)
  replace B1 := H9 (B1.out.later BB.out)
  replace B2 := H9 (B2.out.later BB.out)
  replace HO := H9 (HO.out.below BB.out)
  replace IA := H9 (IA.out.later BB.out)
  replace U := H9 (U.out.later BB.out)
  obtain ⟨gx, hgx⟩ : ∃ g, g = wr.heap.size := ⟨_, rfl⟩
  rw [← hgx] at BX ⊢
  have hg3 : w.heap.size + 3 ≤ gx := by omega
  clear BB hgx
  have x4 := BX.out.at 4 _ rfl
  have x5 := BX.out.at 5 _ rfl
  have sd := B0.out.cell 45 _ rfl
  go_wp2_with fail
  refine (k1.out _ IA.out).mono ?_
  rintro e w2 ⟨A1, c1, rfl, hI, hb2⟩
  clear x4 x5 sd
  have hfar : Hid (0 < D1.length → ∀ b off, A1 = some ⟨b, off, none⟩ → some b ≠ ownB A' ∧ w.heap.size + 3 ≤ b) := H9 fun h0 b off e => by
   have h1 := hI.2 h0 b off e
   have h2 := BX.out.lt
   refine ⟨fun he => ?_, by omega⟩
   have h3 := (HO.out.own.block b he.symm).2
   omega
  have HI := H9 hI.1
  replace B0 := H9 (B0.out.later hb2)
  replace B1 := H9 (B1.out.later hb2)
  replace B2 := H9 (B2.out.later hb2)
  replace BX := H9 (BX.out.later hb2)
  replace HO := H9 (HO.out.below hb2)
  replace U := H9 (U.out.later hb2)
  clear hb2 hI IA
  have sd := B0.out.cell 45 _ rfl
  have sz := Blk.frozen B0.out 45
  go_upto_region 8 with fail
  obtain ⟨W3, hW3⟩ : ∃ W, W = w2.setCell ⟨w.heap.size, 45, none⟩ (.int .u32 D2) := ⟨_, rfl⟩
  rw [← hW3]
  have OV : OnlyB w.heap.size w2 W3 := by rw [hW3]; exact OnlyB.setCell _ _ _ _
  replace B0 := H9 (show PB W3 w.heap.size { p with seed := D2 } A n c by rw [hW3]; exact B0.out.set 45 _ _ rfl)
  replace B1 := H9 (OV.blk B1.out (by omega))
  replace B2 := H9 (OV.blk B2.out (by omega))
  replace BX := H9 (OV.blk BX.out (by omega))
  replace HO := H9 (HO.out.only OV (by omega))
  replace U := H9 (OV.bel U.out (Nat.le_refl _))
  have HI2 : Hid (IntsAt W3 W3.heap.size .i16 A1 D1) := H9 fun h0 => by
   obtain ⟨b, off, e, hlt, hc⟩ := HI.out h0
   have := (hfar.out h0 b off e).2
   exact ⟨b, off, e, by rw [OV.2]; exact hlt, fun i hi => (OV.cell (show b ≠ w.heap.size by omega)).trans (hc i hi)⟩
  clear hW3 OV sd sz HI
  have x0 := BX.out.at 0 _ rfl
  have hbx := BX.out.lt
  go_wp2_with fail
  refine (zsi (w.heap.size + 3) (w.heap.size + 1 + 1) A' k c' ls at0 A1 D1 c1 _ B2.out HO.out (by omega) (by omega) (by omega) HI2.out hfar.out).mono ?_
  rintro e w4 ⟨rfl, A4, c4, B4, O4, K4⟩
  have hB2 := H9 B4
  have hHO := H9 O4
  replace B0 := H9 (K4.blk B0.out (by omega) (by omega))
  replace B1 := H9 (K4.blk B1.out (by omega) (by omega))
  replace U := H9 (K4.bel U.out (by omega) (by omega))
  clear B4 O4 K4 x0 hbx B2 HO BX
  go_wp2_with fail
  go_roundg (gk - 1)
  case measure => omega
  case rel =>
   refine ⟨k + 1, A4, c4, ls ++ [⟨⟨at0, D1, []⟩, A1, c1⟩], by omega, by go_num, H9 ?_, hHO, ?_, B1, hB2, U⟩
   · rw [hsn.out, List.map_append, HL.out]; rfl
   · rw [hsn.out]; exact B0
theorem WtsIn.only {W W' : World} {lo hi g : Nat} {A : Option Addr} {l : List TW} (h : WtsIn W lo hi A l) (ho : OnlyB g W W') (hg : g < lo) : WtsIn W' lo hi A l := h.keep fun p hp _ => ho.cell (by omega)
theorem WtsIn.step {W W' : World} {lo g : Nat} {A : Option Addr} {l : List TW} (h : WtsIn W lo W.heap.size A l) (ho : OnlyB g W W') (hg : g < lo) : WtsIn W' lo W'.heap.size A l := by rw [ho.2]; exact h.only ho hg
theorem WtsIn.later {W W' : World} {lo : Nat} {A : Option Addr} {l : List TW} (h : WtsIn W lo W.heap.size A l) (hb : Below W.heap.size W W') : WtsIn W' lo W'.heap.size A l := (h.below hb (Nat.le_refl _)).more hb.size
structure OkW (a : Jb.Wt) : Prop where
 t0 : 0 ≤ a.m.ty
 t1 : a.m.ty ≤ 255
 z : Within 0 255 a.m.pl
 len : a.m.pl.length ≤ 8000
theorem OkW.okP {a : TW} (h : OkW a.w) (hc : a.w.m.pl.length ≤ a.c) : OkP a := ⟨h.t0, h.t1, h.z, h.len, fun _ => hc⟩
theorem zog {l : List TW} {q : List Jb.Wt} (hl : l.map TW.w = q) (h : ∀ a ∈ q, OkW a) (hc : ∀ a ∈ l, a.w.m.pl.length ≤ a.c) : ∀ a ∈ l, OkP a := fun a ha => (h a.w (by rw [← hl]; exact List.mem_map_of_mem ha)).okP (hc a ha)
def PlayR (p : Sb.Pt) (now v : Int) (w : World) (e : Ending) (w' : World) : Prop :=
 ∃ (A' : Option Addr) (n' c' : Nat) (l' : List TW) (SA : Option Addr) (sc m : Nat) (ls : List TS) (base mid : Nat), e = .returned (.tuple #[.agg (PA (Sb.run p now).1 A' n' c'), .int .u8 v, .slice SA m sc, .int .u8 0]) ∧ l'.map TW.w = (Sb.run p now).1.jt.q ∧ l'.length = n' ∧ n' ≤ c' ∧ c' ≤ maxLen ∧ WtsIn w' w.heap.size mid A' l' ∧ mid ≤ base ∧ mid ≤ w'.heap.size ∧ ls.map TS.s = (Sb.run p now).2 ∧ w.heap.size ≤ base ∧ SOwn w' base SA m sc ls ∧ Below w.heap.size w w'
theorem zjd (p : Sb.Pt) (hw : p.wf) (A : Option Addr) (l : List TW) (n c : Nat) (X : Array Value) (hX : X = PA p A n c) (w : World) (hq : l.map TW.w = p.jt.q) (hn : l.length = n) (hl : n ≤ 100000) (hcap : n ≤ c) (hcm : c ≤ maxLen) (hA : Wts w w.heap.size A l) (hK : ∀ a ∈ l, I64 a.w.m.sq) (now v : Int) (he : (Jb.run p.jt now).2.2 = 0) (hO : ∀ a ∈ (Jb.run p.jt now).2.1, OkW a) (hm : (Jb.run p.jt now).2.1.length ≤ 100000) : Calls Tryz.prog 41 #[.agg X, .int .i64 now, .int .u8 v] w (PlayR p now v w) := by
 have B0 := H9 ((PB.new w X hX).push (.cells (PA Sb.Pt.zero none 0 0) 48))
 have B1 := H9 (Blk.new1 w (.cells X 48) 48 (PA Sb.Pt.zero none 0 0))
 have U0 := H9 (((Bel.refl w).push (.cells X 48)).push (.cells (PA Sb.Pt.zero none 0 0) 48))
 have HA := H9 ((hA.push (.cells X 48)).push (.cells (PA Sb.Pt.zero none 0 0) 48))
 have k1 := H9 fun (W : World) hW => zqp p.jt A l n c now W hq hn hl hcap hcm hW hK
 have HP : Hid (PlayR p now v w = fun e w' => ∃ (A' : Option Addr) (n' c' : Nat) (l' : List TW) (SA : Option Addr) (sc m : Nat) (ls : List TS) (base mid : Nat), e = .returned (.tuple #[.agg (PA { p with jt := (Jb.run p.jt now).1, seed := (Sb.sounds p.seed (Jb.run p.jt now).2.1).1 } A' n' c'), .int .u8 v, .slice SA m sc, .int .u8 0]) ∧ l'.map TW.w = (Jb.run p.jt now).1.q ∧ l'.length = n' ∧ n' ≤ c' ∧ c' ≤ maxLen ∧ WtsIn w' w.heap.size mid A' l' ∧ mid ≤ base ∧ mid ≤ w'.heap.size ∧ ls.map TS.s = (Sb.sounds p.seed (Jb.run p.jt now).2.1).2 ∧ w.heap.size ≤ base ∧ SOwn w' base SA m sc ls ∧ Below w.heap.size w w') := H9 rfl
 rw [HP.out]
 clear HP
 unfold JRunW at k1
 unfold JV at k1
 have HO := H9 hO
 obtain ⟨R, hR⟩ : ∃ R, R = Jb.run p.jt now := ⟨_, rfl⟩
 rw [← hR] at k1 HO he hm ⊢
 clear hR
 obtain ⟨R1, R2, R3⟩ := R
 obtain rfl : R3 = 0 := he
 have hs0 := hw.seed.1
 have hs1 := hw.seed.2
 clear hX hA hK hq hO
 go_enter Tryz.func41, Tryz.ntmps41
 go_upto_region 1 with fail
 change Code.wp _ _ _ _ ((w.alloc (Obj.cells X 48)).alloc (Obj.cells (PA Sb.Pt.zero none 0 0) 48))
 obtain ⟨W, hW⟩ : ∃ W, W = (w.alloc (Obj.cells X 48)).alloc (Obj.cells (PA Sb.Pt.zero none 0 0) 48) := ⟨_, rfl⟩
 rw [← hW] at B0 B1 U0 HA ⊢
 clear hW
 obtain ⟨x14, x15, x16, x17, x18, x19, x20, x21, x22, x23, x24, x25, x26, x27⟩ := B0.out.jt
 have hL := B1.out.lt
 go_wp2_with fail
 refine (k1.out _ HA.out).mono ?_
 rintro e w1 ⟨A1, c1, l1, A2, c2, l2, rfl, hl1, hl2, hW1, hW2, hc2, hm2, hb1, hc1, hm1⟩
 clear x14 x15 x16 x17 x18 x19 x20 x21 x22 x23 x24 x25 x26 x27
 replace U0 := H9 (U0.out.later hb1)
 replace B0 := H9 (B0.out.later hb1)
 replace B1 := H9 (B1.out.later hb1)
 have HL1 := H9 hl1
 have HL2 := H9 hl2
 have HOK := H9 (zog hl1 HO.out hW1.cap)
 have hlen1 : l1.length ≤ 100000 := by have := congrArg List.length hl1; simp at this hm; omega
 have BJ := H9 (Blk.new w1 40 (JW R1 A2 l2.length c2).toArray)
 obtain ⟨g1, hg1⟩ : ∃ g, g = w1.heap.size := ⟨_, rfl⟩
 have hs1' := U0.out.size
 have hb1lt := B1.out.lt
 obtain ⟨W1, hWW⟩ : ∃ W, W = w1.alloc (.cells (JW R1 A2 l2.length c2).toArray 40) := ⟨_, rfl⟩
 have BB := H9 (show Below w1.heap.size w1 W1 by rw [hWW]; exact (Below.refl _ _).alloc (Nat.le_refl _) _)
 have hg1' : Hid (g1 = w1.heap.size) := H9 hg1
 rw [← hg1, ← hWW] at BJ
 go_upto_region 4 with fail
 rw [← hg1]
 change Code.wp _ _ _ _ (w1.alloc (Obj.cells (JW R1 A2 l2.length c2).toArray 40))
 rw [← hWW]
 replace U0 := H9 (U0.out.later BB.out)
 replace B0 := H9 (B0.out.later BB.out)
 replace B1 := H9 (B1.out.later BB.out)
 have HW1 := H9 (hW1.later BB.out)
 have HW2 := H9 (hW2.later BB.out)
 clear hb1 hl1 hl2 hWW hg1 hW1 hW2 BB HA
 have hgl := Blk.lt B0.out
 go_upto_region 5 with (first | (refine zae rfl 40 (.tmp 10) rfl (g1) 0 rfl 40 (JW R1 A2 l2.length c2) BJ.out 14 _ Tryz.underlying40 zbc (show 0 + 14 ≤ 14 by decide) ((JW R1 A2 l2.length c2).toArray) (by rfl) rfl ?_) | (refine zaf rfl 40 (.tmp 27) (.tmp 26) rfl (w.heap.size) 14 rfl 48 (PL p A n c) B0.out (JW R1 A2 l2.length c2) rfl zbc (show 14 + 14 ≤ 48 by decide) rfl (PL { p with jt := R1 } A2 l2.length c2) rfl ?_; intro WF BF OF))
 obtain ⟨q1, hq1⟩ : ∃ q : Sb.Pt, q = { p with jt := R1 } := ⟨_, rfl⟩
 rw [← hq1] at BF
 have hW1 := H9 (HW1.out.step OF (by omega))
 have hW2 := H9 (HW2.out.step OF (by omega))
 replace U0 := H9 (OF.bel U0.out (Nat.le_refl _))
 replace B1 := H9 (OF.blk B1.out (by omega))
 replace B0 := H9 BF
 have k2 := H9 fun (W : World) hW => zfx q1 (by rw [hq1]; exact hs0) (by rw [hq1]; exact hs1) A2 l2.length c2 (PA q1 A2 l2.length c2) rfl A1 l1 l1.length c1 W rfl hlen1 hW HOK.out
 unfold SoundsR at k2
 rw [HL1.out] at k2
 obtain ⟨q2, hq2⟩ : ∃ q : Sb.Pt, q = { q1 with seed := (Sb.sounds q1.seed R2).1 } := ⟨_, rfl⟩
 rw [← hq2] at k2
 have HQ1 := H9 hq1
 have HQ2 := H9 hq2
 clear hq1 hq2 BF OF HW1 HW2 BJ hs0 hs1
 go_wp2_with (first | (refine zae rfl 48 (.tmp 3) rfl (w.heap.size) 0 rfl 48 (PL q1 A2 l2.length c2) B0.out 48 _ Tryz.underlying48 zah (show 0 + 48 ≤ 48 by decide) (PA q1 A2 l2.length c2) (by rfl) rfl ?_) | fail)
 refine (k2.out _ hW1.out.rows).mono ?_
 rintro e w3 ⟨SA, sc, ls, rfl, hls, hso, hb3⟩
 have hbase : w.heap.size ≤ WF.heap.size := U0.out.size
 replace U0 := H9 (U0.out.later hb3)
 have B03 := H9 (PB.later B0.out hb3)
 have B13 := H9 (B1.out.later hb3)
 replace hW2 := H9 (hW2.out.below hb3 (Nat.le_refl _))
 have HLS := H9 hls
 have HSO := H9 hso
 have hsz3 := hb3.size
 clear hls hso hb3 hW1 B0 B1
 go_upto_region 6 with (first | (refine zaf rfl 48 (.tmp 3) (.tmp 32) rfl (w.heap.size) 0 rfl 48 (PL q1 A2 l2.length c2) B03.out (PL q2 A2 l2.length c2) rfl zah (show 0 + 48 ≤ 48 by decide) rfl (PL q2 A2 l2.length c2) rfl ?_; intro WG BG OG) | fail)
 have hW3 := H9 (hW2.out.only OG (by omega))
 have hGs : WF.heap.size ≤ WG.heap.size := by rw [OG.2]; exact hsz3
 have hsb : w.heap.size < WF.heap.size + 3 := by omega
 replace U0 := H9 (OG.bel U0.out (Nat.le_refl _))
 replace B13 := H9 (OG.blk B13.out (by omega))
 replace HSO := H9 (HSO.out.only OG hsb)
 have HBG := H9 BG
 clear BG OG hW2 B03
 have hg1l : w.heap.size + 1 < WF.heap.size + 3 := by have := hg1'.out; omega
 go_wp2_with (first | (refine zae rfl 48 (.tmp 3) rfl (w.heap.size) 0 rfl 48 (PL q2 A2 l2.length c2) HBG.out 48 _ Tryz.underlying48 zah (show 0 + 48 ≤ 48 by decide) (PA q2 A2 l2.length c2) (by rfl) rfl ?_) | (refine zaf rfl 48 (.tmp 6) (.tmp 34) rfl (w.heap.size + 1) 0 rfl 48 (PL Sb.Pt.zero none 0 0) B13.out (PL q2 A2 l2.length c2) rfl zah (show 0 + 48 ≤ 48 by decide) rfl (PL q2 A2 l2.length c2) rfl ?_; intro WH BH OH) | fail)
 have hHs : WF.heap.size ≤ WH.heap.size := by rw [OH.2]; exact hGs
 have hW4 := (hW3.out.only OH hL).less (lo' := w.heap.size) (by omega)
 refine bodyPost_ret (v := .tuple #[.agg (PA q2 A2 l2.length c2), .int .u8 v, .slice SA l1.length sc, .int .u8 0]) (zbm Tryz.results41 rfl (PB.load BH) rfl rfl rfl) rfl ⟨A2, l2.length, c2, l2, SA, sc, l1.length, ls, WF.heap.size + 3, WF.heap.size, ?_, HL2.out, rfl, hc2, hm2, hW4, by omega, hHs, ?_, by omega, HSO.out.only OH hg1l, OH.bel U0.out (by omega)⟩
 · rw [HQ2.out, HQ1.out]
 · rw [HLS.out, HQ1.out]
theorem zfi {p : Sb.Pt} {now : Int} (h : Sb.chkT p now = 0) : p.valid = true ∧ now ≤ 281474976710656 ∧ p.jt.now ≤ now := by
 unfold Sb.chkT at h
 split at h
 · cases h
 · rename_i h1
   split at h
   · cases h
   · rename_i h2
     refine ⟨?_, by omega, by omega⟩
     cases hv : p.valid
     · exact absurd (Or.inl hv) h1
     · rfl
theorem zqh {p : Sb.Pt} (h : p.valid = true) : p.jt.ok := by
 unfold Sb.Pt.valid at h
 simp only [Bool.and_eq_true] at h
 have h3 : Jb.valid p.jt = true := h.1.1.2
 unfold Jb.valid at h3
 exact of_decide_eq_true h3
theorem zqi {p : Sb.Pt} {now : Int} (h : Sb.chkT p now = 0) : (Jb.run p.jt now).2.2 = 0 ∧ (Jb.run p.jt now).2.1 = Jb.due now p.jt.q := by
 obtain ⟨h1, h2, h3⟩ := zfi h
 have h4 := zqh h1
 have h5 : Jb.chk p.jt now true = 0 := by
  unfold Jb.chk
  rw [if_neg (fun hh => by rcases hh with hh | hh | hh; exact hh h4; omega; cases hh), if_neg (by omega)]
 unfold Jb.run
 rw [if_pos h5]
 exact ⟨rfl, rfl⟩
theorem zoh {now : Int} {q : List Jb.Wt} (h : ∀ a ∈ q, OkW a) : ∀ a ∈ Jb.due now q, OkW a := fun a ha => h a ((List.takeWhile_sublist _).subset ha)
theorem zfy (now : Int) (q : List Jb.Wt) : (Jb.due now q).length ≤ q.length := (List.takeWhile_sublist _).length_le
def PlayV (p : Sb.Pt) (now : Int) (w : World) (e : Ending) (w' : World) : Prop :=
 ∃ (A' : Option Addr) (n' c' : Nat) (l' : List TW) (SA : Option Addr) (sc m : Nat) (ls : List TS) (base : Nat), e = .returned (.tuple #[.agg (PA (Sb.run p now).1 A' n' c'), .slice SA m sc, .int .u8 0]) ∧ l'.map TW.w = (Sb.run p now).1.jt.q ∧ l'.length = n' ∧ n' ≤ c' ∧ c' ≤ maxLen ∧ WtsIn w' w.heap.size w'.heap.size A' l' ∧ ls.map TS.s = (Sb.run p now).2 ∧ w.heap.size ≤ base ∧ SOwn w' base SA m sc ls ∧ Below w.heap.size w w'
theorem zsk (p : Sb.Pt) (hw : p.wf) (A : Option Addr) (l : List TW) (n c : Nat) (X : Array Value) (hX : X = PA p A n c) (w : World) (hq : l.map TW.w = p.jt.q) (hn : l.length = n) (hl : n ≤ 100000) (hcap : n ≤ c) (hcm : c ≤ maxLen) (hA : Wts w w.heap.size A l) (hK : ∀ a ∈ l, I64 a.w.m.sq) (now : Int) (hc : Sb.chkT p now = 0) (hO : ∀ a ∈ p.jt.q, OkW a) : Calls Tryz.prog 15 #[.agg X, .int .i64 now] w (PlayV p now w) := by
 have B0 := H9 ((PB.new w X hX).push (.cells (PA Sb.Pt.zero none 0 0) 48))
 have B1 := H9 (Blk.new1 w (.cells X 48) 48 (PA Sb.Pt.zero none 0 0))
 have U0 := H9 (((Bel.refl w).push (.cells X 48)).push (.cells (PA Sb.Pt.zero none 0 0) 48))
 have HA := H9 ((hA.push (.cells X 48)).push (.cells (PA Sb.Pt.zero none 0 0) 48))
 obtain ⟨r1, r2⟩ := zqi hc
 have hm : (Jb.run p.jt now).2.1.length ≤ 100000 := by
  rw [r2]
  have h1 := zfy now p.jt.q
  have h2 := congrArg List.length hq
  simp at h2
  omega
 have k1 := H9 fun (W : World) hW => zdr p hw A l n c (PA p A n c) rfl W hq hn hl hW hK now
 rw [hc] at k1
 have k2 := H9 fun (W : World) hW => zjd p hw A l n c (PA p A n c) rfl W hq hn hl hcap hcm hW hK now 0 r1 (by rw [r2]; exact zoh hO) hm
 unfold PlayR at k2
 unfold PlayV
 generalize Sb.run p now = R at *
 obtain ⟨q, R2⟩ := R
 clear hX hA hK hq hc hO r1 r2 hm hw
 go_enter Tryz.func15, Tryz.ntmps15
 go_upto_region 1 with fail
 change Code.wp _ _ _ _ ((w.alloc (Obj.cells X 48)).alloc (Obj.cells (PA Sb.Pt.zero none 0 0) 48))
 obtain ⟨W, hW⟩ : ∃ W, W = (w.alloc (Obj.cells X 48)).alloc (Obj.cells (PA Sb.Pt.zero none 0 0) 48) := ⟨_, rfl⟩
 rw [← hW] at B0 B1 U0 HA ⊢
 clear hW
 have hL := B1.out.lt
 go_wp2_with (first | (refine zae rfl 48 (.tmp 2) rfl (w.heap.size) 0 rfl 48 (PL p A n c) B0.out 48 _ Tryz.underlying48 zah (show 0 + 48 ≤ 48 by decide) (PA p A n c) (by rfl) rfl ?_) | fail)
 refine (k1.out _ HA.out).mono ?_
 rintro e w1 ⟨rfl, hb1⟩
 replace U0 := H9 (U0.out.later hb1)
 replace B0 := H9 (B0.out.later hb1)
 replace B1 := H9 (B1.out.later hb1)
 replace HA := H9 (HA.out.later hb1)
 have hL1 := B1.out.lt
 clear hb1
 go_wp2_with (first | (refine zae rfl 48 (.tmp 2) rfl (w.heap.size) 0 rfl 48 (PL p A n c) B0.out 48 _ Tryz.underlying48 zah (show 0 + 48 ≤ 48 by decide) (PA p A n c) (by rfl) rfl ?_) | fail)
 refine (k2.out _ HA.out).mono ?_
 rintro e w2 ⟨A2, n2, c2, l2, SA, sc, m, ls, base, mid, rfl, e1, e2, e3, e4, e5, em1, em2, e6, e7, e8, hb2⟩
 replace e5 := e5.more em2
 clear em1 em2
 replace U0 := H9 (U0.out.later hb2)
 replace B0 := H9 (B0.out.later hb2)
 replace B1 := H9 (B1.out.later hb2)
 have hus := U0.out.size
 have hs1 := hb2.size
 have HE1 := H9 e1
 have HE5 := H9 e5
 have HE6 := H9 e6
 have HE8 := H9 e8
 clear hb2 HA e1 e5 e6 e8
 subst e2
 go_upto_region 5 with (first | (refine zaf rfl 48 (.tmp 2) (.tmp 22) rfl (w.heap.size) 0 rfl 48 (PL p A n c) B0.out (PL q A2 l2.length c2) rfl zah (show 0 + 48 ≤ 48 by decide) rfl (PL q A2 l2.length c2) rfl ?_; intro WG BG OG) | fail)
 replace U0 := H9 (OG.bel U0.out (Nat.le_refl _))
 replace B1 := H9 (OG.blk B1.out (by omega))
 replace HE5 := H9 (HE5.out.step OG (by omega))
 replace HE8 := H9 (HE8.out.only OG (by omega))
 have HBG := H9 BG
 clear BG OG B0
 go_wp2_with (first | (refine zae rfl 48 (.tmp 2) rfl (w.heap.size) 0 rfl 48 (PL q A2 l2.length c2) HBG.out 48 _ Tryz.underlying48 zah (show 0 + 48 ≤ 48 by decide) (PA q A2 l2.length c2) (by rfl) rfl ?_) | (refine zaf rfl 48 (.tmp 4) (.tmp 26) rfl (w.heap.size + 1) 0 rfl 48 (PL Sb.Pt.zero none 0 0) B1.out (PL q A2 l2.length c2) rfl zah (show 0 + 48 ≤ 48 by decide) rfl (PL q A2 l2.length c2) rfl ?_; intro WH BH OH) | fail)
 refine bodyPost_ret (v := .tuple #[.agg (PA q A2 l2.length c2), .slice SA m sc, .int .u8 0]) (zao Tryz.results15 rfl (PB.load BH) rfl rfl) rfl ⟨A2, l2.length, c2, l2, SA, sc, m, ls, base, rfl, HE1.out, rfl, e3, e4, (HE5.out.step OH hL1).less (by omega), HE6.out, by omega, HE8.out.only OH (by omega), OH.bel U0.out (by omega)⟩
def fromReg (i : Nat) : Code → Option Code
 | .seq (.region j ops d) b => if i = j then some (.seq (.region j ops d) b) else fromReg i b
 | .seq (.seq (.region j ops d) x) b => if i = j then some (.seq (.seq (.region j ops d) x) b) else fromReg i b
 | .seq a b => fromReg i b
 | _ => none
def firstWp (P : Program) : Code → (Exit → Act → World → Prop) → Act → World → Prop
 | .seq x y, Q => firstWp P x (Exit.then (y.wp P Q) Q)
 | c, Q => c.wp P Q
theorem zec {P : Program} {i : Nat} {o : Array Oper} {d : Bool} {y : Code} {Q : Exit → Act → World → Prop} {a : Act} {w : World} (h : ∀ K : Act → World → Prop, (∀ a w, y.wp P Q a w → K a w) → (Code.region i o d).wp P (Exit.then K Q) a w) : firstWp P (.seq (.region i o d) y) Q a w := h _ fun _ _ h => h
theorem zcm {P : Program} {i : Nat} {o : Array Oper} {d : Bool} {x y : Code} {Q : Exit → Act → World → Prop} {a : Act} {w : World} (h : ∀ K : Act → World → Prop, (∀ a w, y.wp P Q a w → K a w) → ∀ L : Act → World → Prop, (∀ a w, x.wp P (Exit.then K Q) a w → L a w) → (Code.region i o d).wp P (Exit.then L (Exit.then K Q)) a w) : firstWp P (.seq (.seq (.region i o d) x) y) Q a w := h _ (fun _ _ h => h) _ fun _ _ h => h
theorem zcv {P : Program} {x y : Code} {Q : Exit → Act → World → Prop} {K : Act → World → Prop} {a : Act} {w : World} (hk : ∀ a w, y.wp P Q a w → K a w) (h : x.wp P (Exit.then (y.wp P Q) Q) a w) : x.wp P (Exit.then K Q) a w :=
 Code.wp_mono (fun e a w q => by cases e <;> first | exact hk _ _ q | exact q) h
theorem zeh {P : Program} {x1 x2 y : Code} {Q : Exit → Act → World → Prop} {K1 K2 : Act → World → Prop} {a : Act} {w : World} (hk1 : ∀ a w, x2.wp P (Exit.then K2 Q) a w → K1 a w) (hk2 : ∀ a w, y.wp P Q a w → K2 a w)
 (h : x1.wp P (Exit.then (x2.wp P (Exit.then (y.wp P Q) Q)) (Exit.then (y.wp P Q) Q)) a w) : x1.wp P (Exit.then K1 (Exit.then K2 Q)) a w :=
 Code.wp_mono (fun e a w q => by
  cases e <;> first
   | exact hk1 _ _ (Code.wp_mono (fun e a w q => by cases e <;> first | exact hk2 _ _ q | exact q) q)
   | exact q) h
structure Rx where
 mrk : Bool
 ty : Int
 sq : Int
 ti : Int
 src : Int
 CA : Option Addr
 cn : Nat
 cc : Nat
 ex : Bool
 pr : Int
 EA : Option Addr
 en : Nat
 ec : Nat
 B : Option Addr
 pl : List Int
 pc : Nat
 pad : Int
def Rx.row (x : Rx) : Array Value := #[.bool x.mrk, .int .u8 x.ty, .int .u16 x.sq, .int .u32 x.ti, .int .u32 x.src, .slice x.CA x.cn x.cc, .bool x.ex, .int .u16 x.pr, .slice x.EA x.en x.ec, .slice x.B x.pl.length x.pc, .int .i64 x.pad]
def Rx.arr (x : Rx) : Sb.Arr := ⟨x.mrk, x.ty, x.sq, x.ti, x.pl⟩
structure RC (w : World) (p : Sb.Pt) (A : Option Addr) (l : List TW) (n c : Nat) (x : Rx) (now : Int) : Prop where
 q : l.map TW.w = p.jt.q
 len : l.length = n
 n5 : n ≤ 100000
 cap : n ≤ c
 cm : c ≤ maxLen
 av : Wts w w.heap.size A l
 sq : ∀ a ∈ l, I64 a.w.m.sq
 ok : ∀ a ∈ p.jt.q, OkW a
 s0 : 0 ≤ p.seed
 s1 : p.seed ≤ 4294967295
 ty0 : 0 ≤ x.ty
 ty1 : x.ty ≤ 255
 q0 : 0 ≤ x.sq
 q1 : x.sq ≤ 65535
 t0 : 0 ≤ x.ti
 t1 : x.ti ≤ 4294967295
 h15 : x.pl.length ≤ 1500
 pl : IntsAt w w.heap.size .u8 x.B x.pl
 n0 : -281474976710656 ≤ now
 n1 : now ≤ 281474976710656
theorem RC.with {w : World} {p p' : Sb.Pt} {A : Option Addr} {l : List TW} {n c : Nat} {x : Rx} {now : Int} (h : RC w p A l n c x now) (hj : p'.jt = p.jt) (hs : p'.seed = p.seed) : RC w p' A l n c x now :=
 ⟨by rw [hj]; exact h.q, h.len, h.n5, h.cap, h.cm, h.av, h.sq, by rw [hj]; exact h.ok, by rw [hs]; exact h.s0, by rw [hs]; exact h.s1, h.ty0, h.ty1, h.q0, h.q1, h.t0, h.t1, h.h15, h.pl, h.n0, h.n1⟩
structure RS (w W : World) (p : Sb.Pt) (A : Option Addr) (n c : Nat) (x : Rx) : Prop where
 b0 : PB W w.heap.size p A n c
 b1 : Blk W (w.heap.size + 1) 51 x.row
 b2 : Blk W (w.heap.size + 1 + 1) 48 (PA Sb.Pt.zero none 0 0)
 u : Bel w W
section
variable {w W W' : World} {p p' : Sb.Pt} {A A' : Option Addr} {n n' c c' : Nat} {x : Rx}
theorem RS.later (h : RS w W p A n c x) (hb : Below W.heap.size W W') : RS w W' p A n c x := ⟨h.b0.later hb, h.b1.later hb, h.b2.later hb, h.u.later hb⟩
theorem RS.push (h : RS w W p A n c x) (o : Obj) : RS w (W.alloc o) p A n c x := h.later ((Below.refl _ _).alloc (Nat.le_refl _) _)
theorem RS.over (h : RS w W p A n c x) (ho : OnlyB w.heap.size W W') (hb : PB W' w.heap.size p' A' n' c') : RS w W' p' A' n' c' x := ⟨hb, ho.blk h.b1 (by omega), ho.blk h.b2 (by omega), ho.bel h.u (Nat.le_refl _)⟩
theorem RS.c0 (h : RS w W p A n c x) : W.cell? ⟨w.heap.size + 1, 0, none⟩ = some (.bool x.mrk) := h.b1.at 0 _ rfl
theorem RS.c1 (h : RS w W p A n c x) : W.cell? ⟨w.heap.size + 1, 1, none⟩ = some (.int .u8 x.ty) := h.b1.at 1 _ rfl
theorem RS.c2 (h : RS w W p A n c x) : W.cell? ⟨w.heap.size + 1, 2, none⟩ = some (.int .u16 x.sq) := h.b1.at 2 _ rfl
theorem RS.c3 (h : RS w W p A n c x) : W.cell? ⟨w.heap.size + 1, 3, none⟩ = some (.int .u32 x.ti) := h.b1.at 3 _ rfl
theorem RS.c9 (h : RS w W p A n c x) : W.cell? ⟨w.heap.size + 1, 9, none⟩ = some (.slice x.B x.pl.length x.pc) := h.b1.at 9 _ rfl
theorem RS.far (h : RS w W p A n c x) {g : Nat} (ho : OnlyB g W W') (h0 : w.heap.size ≠ g) (h1 : g ≠ w.heap.size + 1) (h2 : g ≠ w.heap.size + 1 + 1) (hg : w.heap.size ≤ g) : RS w W' p A n c x := ⟨ho.blk h.b0 h0, ho.blk h.b1 (Ne.symm h1), ho.blk h.b2 (Ne.symm h2), ho.bel h.u hg⟩
theorem RS.set (h : RS w W p A n c x) (i : Nat) (v : Value) (hp : (PL p A n c).set i v = PL p' A n c) : RS w (W.setCell ⟨w.heap.size, i, none⟩ v) p' A n c x := h.over (OnlyB.setCell _ _ _ _) (h.b0.set i v p' hp)
end
def RecvR (R : Sb.Pt × Int × List Sb.Sd) (w : World) (e : Ending) (w' : World) : Prop :=
 ∃ (A' : Option Addr) (n' c' : Nat) (l' : List TW) (SA : Option Addr) (sc m : Nat) (ls : List TS) (base : Nat), e = .returned (.tuple #[.agg (PA R.1 A' n' c'), .int .u8 R.2.1, .slice SA m sc, .int .u8 0]) ∧ l'.map TW.w = R.1.jt.q ∧ l'.length = n' ∧ n' ≤ c' ∧ c' ≤ maxLen ∧ WtsIn w' w.heap.size w'.heap.size A' l' ∧ ls.map TS.s = R.2.2 ∧ w.heap.size ≤ base ∧ SOwn w' base SA m sc ls ∧ Below w.heap.size w w'
def AllL : List (Nat × Value) → List Value → Prop
 | [], _ => True
 | (k, v) :: L, xs => xs[k]? = some v ∧ AllL L xs
def AllS : List (Nat × Value) → (Nat → Value) → Prop
 | [], _ => True
 | (k, v) :: L, s => s k = v ∧ AllS L s
def Fr (n : Nat) (L : List (Nat × Value)) (a : Act) : Prop := ∃ s : Nat → Value, a = ⟨((List.range n).map s).toArray, []⟩ ∧ AllS L s
theorem AllL.s {xs : List Value} : ∀ {L : List (Nat × Value)}, AllL L xs → AllS L fun k => xs.getD k undef
 | [], _ => trivial
 | (k, v) :: L, h => ⟨by show xs.getD k undef = v; rw [List.getD_eq_getElem?_getD, h.1]; rfl, AllL.s h.2⟩
theorem Fr.mk {n : Nat} {L : List (Nat × Value)} {xs : List Value} (h : xs.length = n) (hL : AllL L xs) : Fr n L ⟨xs.toArray, []⟩ := by
 refine ⟨fun k => xs.getD k undef, ?_, hL.s⟩
 congr 2
 apply List.ext_getElem
 · simp [h]
 · intro k h1 h2
   simp [List.getElem?_eq_getElem h1]
theorem r164 (s : Nat → Value) : ((List.range 164).map s).toArray = #[s 0, s 1, s 2, s 3, s 4, s 5, s 6, s 7, s 8, s 9, s 10, s 11, s 12, s 13, s 14, s 15, s 16, s 17, s 18, s 19, s 20, s 21, s 22, s 23, s 24, s 25, s 26, s 27, s 28, s 29, s 30, s 31, s 32, s 33, s 34, s 35, s 36, s 37, s 38, s 39, s 40, s 41, s 42, s 43, s 44, s 45, s 46, s 47, s 48, s 49, s 50, s 51, s 52, s 53, s 54, s 55, s 56, s 57, s 58, s 59, s 60, s 61, s 62, s 63, s 64, s 65, s 66, s 67, s 68, s 69, s 70, s 71, s 72, s 73, s 74, s 75, s 76, s 77, s 78, s 79, s 80, s 81, s 82, s 83, s 84, s 85, s 86, s 87, s 88, s 89, s 90, s 91, s 92, s 93, s 94, s 95, s 96, s 97, s 98, s 99, s 100, s 101, s 102, s 103, s 104, s 105, s 106, s 107, s 108, s 109, s 110, s 111, s 112, s 113, s 114, s 115, s 116, s 117, s 118, s 119, s 120, s 121, s 122, s 123, s 124, s 125, s 126, s 127, s 128, s 129, s 130, s 131, s 132, s 133, s 134, s 135, s 136, s 137, s 138, s 139, s 140, s 141, s 142, s 143, s 144, s 145, s 146, s 147, s 148, s 149, s 150, s 151, s 152, s 153, s 154, s 155, s 156, s 157, s 158, s 159, s 160, s 161, s 162, s 163] := rfl
def FrA (g : Nat) (now : Int) (a : Act) : Prop := Fr 164 [(1, .int .i64 now), (3, .pointer (some ⟨g, 0, none⟩)), (5, .pointer (some ⟨g + 1, 0, none⟩)), (6, .pointer (some ⟨g + 1 + 1, 0, none⟩))] a
theorem FrA.mk {g : Nat} {now : Int} {xs : List Value} (h : xs.length = 164 := by rfl) (hL : AllL [(1, .int .i64 now), (3, .pointer (some ⟨g, 0, none⟩)), (5, .pointer (some ⟨g + 1, 0, none⟩)), (6, .pointer (some ⟨g + 1 + 1, 0, none⟩))] xs := by exact ⟨rfl, rfl, rfl, rfl, trivial⟩) : FrA g now ⟨xs.toArray, []⟩ := Fr.mk h hL
def FrB (g : Nat) (now : Int) (gt : Nat) (kn : Bool) (a : Act) : Prop := Fr 164 [(1, .int .i64 now), (3, .pointer (some ⟨g, 0, none⟩)), (5, .pointer (some ⟨g + 1, 0, none⟩)), (6, .pointer (some ⟨g + 1 + 1, 0, none⟩)), (11, .pointer (some ⟨gt, 0, none⟩)), (12, .bool kn)] a
theorem FrB.mk {g : Nat} {now : Int} {gt : Nat} {kn : Bool} {xs : List Value} (h : xs.length = 164 := by rfl) (hL : AllL [(1, .int .i64 now), (3, .pointer (some ⟨g, 0, none⟩)), (5, .pointer (some ⟨g + 1, 0, none⟩)), (6, .pointer (some ⟨g + 1 + 1, 0, none⟩)), (11, .pointer (some ⟨gt, 0, none⟩)), (12, .bool kn)] xs := by exact ⟨rfl, rfl, rfl, rfl, rfl, rfl, trivial⟩) : FrB g now gt kn ⟨xs.toArray, []⟩ := Fr.mk h hL
def FrU (g : Nat) (now : Int) (gt : Nat) (on : Bool) (fn : Int) (ok : Bool) (a : Act) : Prop := Fr 164 [(1, .int .i64 now), (3, .pointer (some ⟨g, 0, none⟩)), (5, .pointer (some ⟨g + 1, 0, none⟩)), (6, .pointer (some ⟨g + 1 + 1, 0, none⟩)), (11, .pointer (some ⟨gt, 0, none⟩)), (13, .bool on), (15, .int .i64 fn), (16, .bool ok)] a
theorem FrU.mk {g : Nat} {now : Int} {gt : Nat} {on : Bool} {fn : Int} {ok : Bool} {xs : List Value} (h : xs.length = 164 := by rfl) (hL : AllL [(1, .int .i64 now), (3, .pointer (some ⟨g, 0, none⟩)), (5, .pointer (some ⟨g + 1, 0, none⟩)), (6, .pointer (some ⟨g + 1 + 1, 0, none⟩)), (11, .pointer (some ⟨gt, 0, none⟩)), (13, .bool on), (15, .int .i64 fn), (16, .bool ok)] xs := by exact ⟨rfl, rfl, rfl, rfl, rfl, rfl, rfl, rfl, trivial⟩) : FrU g now gt on fn ok ⟨xs.toArray, []⟩ := Fr.mk h hL
def FrC (g : Nat) (now : Int) (gt : Nat) (on : Bool) (fn : Int) (a : Act) : Prop := Fr 164 [(1, .int .i64 now), (3, .pointer (some ⟨g, 0, none⟩)), (5, .pointer (some ⟨g + 1, 0, none⟩)), (6, .pointer (some ⟨g + 1 + 1, 0, none⟩)), (11, .pointer (some ⟨gt, 0, none⟩)), (13, .bool on), (15, .int .i64 fn)] a
theorem FrC.mk {g : Nat} {now : Int} {gt : Nat} {on : Bool} {fn : Int} {xs : List Value} (h : xs.length = 164 := by rfl) (hL : AllL [(1, .int .i64 now), (3, .pointer (some ⟨g, 0, none⟩)), (5, .pointer (some ⟨g + 1, 0, none⟩)), (6, .pointer (some ⟨g + 1 + 1, 0, none⟩)), (11, .pointer (some ⟨gt, 0, none⟩)), (13, .bool on), (15, .int .i64 fn)] xs := by exact ⟨rfl, rfl, rfl, rfl, rfl, rfl, rfl, trivial⟩) : FrC g now gt on fn ⟨xs.toArray, []⟩ := Fr.mk h hL
def FrE (g : Nat) (now : Int) (on : Bool) (fn t : Int) (a : Act) : Prop := Fr 164 [(1, .int .i64 now), (3, .pointer (some ⟨g, 0, none⟩)), (5, .pointer (some ⟨g + 1, 0, none⟩)), (6, .pointer (some ⟨g + 1 + 1, 0, none⟩)), (13, .bool on), (15, .int .i64 fn), (17, .int .i64 t)] a
theorem FrE.mk {g : Nat} {now : Int} {on : Bool} {fn t : Int} {xs : List Value} (h : xs.length = 164 := by rfl) (hL : AllL [(1, .int .i64 now), (3, .pointer (some ⟨g, 0, none⟩)), (5, .pointer (some ⟨g + 1, 0, none⟩)), (6, .pointer (some ⟨g + 1 + 1, 0, none⟩)), (13, .bool on), (15, .int .i64 fn), (17, .int .i64 t)] xs := by exact ⟨rfl, rfl, rfl, rfl, rfl, rfl, rfl, trivial⟩) : FrE g now on fn t ⟨xs.toArray, []⟩ := Fr.mk h hL
def FrD (g : Nat) (now fn t : Int) (a : Act) : Prop := Fr 164 [(1, .int .i64 now), (3, .pointer (some ⟨g, 0, none⟩)), (5, .pointer (some ⟨g + 1, 0, none⟩)), (6, .pointer (some ⟨g + 1 + 1, 0, none⟩)), (15, .int .i64 fn), (17, .int .i64 t)] a
theorem FrD.mk {g : Nat} {now fn t : Int} {xs : List Value} (h : xs.length = 164 := by rfl) (hL : AllL [(1, .int .i64 now), (3, .pointer (some ⟨g, 0, none⟩)), (5, .pointer (some ⟨g + 1, 0, none⟩)), (6, .pointer (some ⟨g + 1 + 1, 0, none⟩)), (15, .int .i64 fn), (17, .int .i64 t)] xs := by exact ⟨rfl, rfl, rfl, rfl, rfl, rfl, trivial⟩) : FrD g now fn t ⟨xs.toArray, []⟩ := Fr.mk h hL
noncomputable def rcA_code : Code := ((Tryz.f11.body.bind (fromReg 6)).getD .skip)
noncomputable def rcB_code : Code := ((Tryz.f11.body.bind (fromReg 11)).getD .skip)
noncomputable def rcS_code : Code := ((Tryz.f11.body.bind (fromReg 16)).getD .skip)
noncomputable def rcC_code : Code := ((Tryz.f11.body.bind (fromReg 18)).getD .skip)
noncomputable def rcE_code : Code := ((Tryz.f11.body.bind (fromReg 23)).getD .skip)
noncomputable def rcD_code : Code := ((Tryz.f11.body.bind (fromReg 25)).getD .skip)
def fromBlk (i : Nat) : Code → Option Code
 | .seq (.block j x) b => if i = j then some (.seq (.block j x) b) else fromBlk i b
 | .seq a b => fromBlk i b
 | _ => none
theorem zgr {P : Program} {i : Nat} {x y : Code} {Q : Exit → Act → World → Prop} {a : Act} {w : World} (h : ∀ K : Act → World → Prop, (∀ a w, y.wp P Q a w → K a w) → (Code.block i x).wp P (Exit.then K Q) a w) : firstWp P (.seq (.block i x) y) Q a w := h _ fun _ _ h => h
structure SC (w : World) (p : Sb.Pt) (A : Option Addr) (l : List TW) (n c : Nat) (ZA : Option Addr) (zs : List Int) (zc : Nat) : Prop where
 wf : p.wf
 q : l.map TW.w = p.jt.q
 len : l.length = n
 n5 : n ≤ 100000
 cap : n ≤ c
 cm : c ≤ maxLen
 av : Wts w w.heap.size A l
 sq : ∀ a ∈ l, I64 a.w.m.sq
 pay : ∀ a ∈ l, a.w.m.pl.length ≤ 1000000
 z : IntsAt w w.heap.size .i16 ZA zs
 zb : Within (-32768) 32767 zs
 zl : zs.length = 160
 v : p.valid = true
structure PkS (W : World) (n : Nat) (S : List Nat) (KA : Option Addr) (ks : List TK) : Prop where
 rows : Pks W W.heap.size KA ks
 av : 0 < ks.length → ∀ b off, KA = some ⟨b, off, none⟩ → b ∉ S
 pay : ∀ a ∈ ks, 0 < a.k.pl.length → ∀ b off, a.B = some ⟨b, off, none⟩ → b ∉ S
 new : PksN n KA ks
theorem PkS.nil {W : World} {n : Nat} {S : List Nat} {KA : Option Addr} : PkS W n S KA [] := ⟨Pks.nil, fun h => absurd h (by simp), (fun _ h => by cases h), PksN.nil⟩
theorem PkS.chg {W W' : World} {n : Nat} {S T : List Nat} {KA : Option Addr} {ks : List TK} (h : PkS W n S KA ks) (hc : Chg T W W') (hT : ∀ x ∈ T, x ∈ S) : PkS W' n S KA ks := by
 refine ⟨⟨fun h0 => ?_, fun a ha => ?_⟩, h.av, h.pay, h.new⟩
 · obtain ⟨b, off, e, hlt, qc⟩ := h.rows.1 h0
   exact ⟨b, off, e, Nat.lt_of_lt_of_le hlt hc.size, fun i a ha j v hv => (hc.cell (p := ⟨b, off + i * 11 + j, none⟩) hlt (fun hb => h.av h0 b off e (hT b hb))).trans (qc i a ha j v hv)⟩
 · exact hc.ints (h.rows.2 a ha) (fun h0 b off e hb => h.pay a ha h0 b off e (hT b hb))
theorem PkS.one {W : World} {n base bc c : Nat} {S : List Nat} {A B : Option Addr} {k : Sb.Pkt} {pl : List Int} (ho : Owns W base 51 11 A 1 c (pktRow k B bc)) (hp : IntsAv W S .u8 B pl) (hk : k.pl = pl) (hb : ∀ x ∈ S, x < base) (hn : n ≤ base) (hbn : 0 < pl.length → ∀ b off, B = some ⟨b, off, none⟩ → n ≤ b) : PkS W n S A [⟨k, B, bc⟩] := by
 have hA : ∀ b off, A = some ⟨b, off, none⟩ → base ≤ b := fun b off e => (ho.block b (by rw [e]; rfl)).1
 refine ⟨Pks.one ho hp.1 hk, fun _ b off e hS => ?_, fun a ha h0 b off e => ?_, fun _ b off e => ?_, fun a ha h0 b off e => ?_⟩
 · have h1 := hA b off e
   have h2 := hb b hS
   omega
 · obtain rfl := List.mem_singleton.1 ha
   exact hp.2 (by rw [← hk]; exact h0) b off e
 · have h1 := hA b off e
   omega
 · obtain rfl := List.mem_singleton.1 ha
   exact hbn (by rw [← hk]; exact h0) b off e
structure SS (w W : World) (gl : Nat) (p : Sb.Pt) (A : Option Addr) (n c : Nat) (l : List TW) (KA : Option Addr) (kn kc : Nat) : Prop where
 m : PM W [gl, w.heap.size + 1, w.heap.size] w.heap.size p A n c l
 b1 : Blk W (w.heap.size + 1) 48 (PA Sb.Pt.zero none 0 0)
 bl : Blk W gl 69 #[.slice KA kn kc]
 u : Bel w W
 lt : w.heap.size + 1 < gl
section
variable {w W W' : World} {gl : Nat} {p p' : Sb.Pt} {A : Option Addr} {n c : Nat} {l : List TW} {KA KA' : Option Addr} {kn kc kn' kc' : Nat}
theorem SS.later (h : SS w W gl p A n c l KA kn kc) (hb : Below W.heap.size W W') : SS w W' gl p A n c l KA kn kc := ⟨h.m.later hb, h.b1.later hb, h.bl.later hb, h.u.later hb, h.lt⟩
theorem SS.push (h : SS w W gl p A n c l KA kn kc) (o : Obj) : SS w (W.alloc o) gl p A n c l KA kn kc := h.later ((Below.refl _ _).alloc (Nat.le_refl _) _)
theorem SS.drew (h : SS w W gl p A n c l KA kn kc) : SS w W.drew gl p A n c l KA kn kc := ⟨h.m.drew, Blk.dr h.b1, Blk.dr h.bl, Bel.drew h.u, h.lt⟩
theorem SS.over (h : SS w W gl p A n c l KA kn kc) (ho : OnlyB w.heap.size W W') (hb : PB W' w.heap.size p' A n c) (hj : p'.jt.q = p.jt.q) : SS w W' gl p' A n c l KA kn kc := by
 have := h.lt
 exact ⟨h.m.over (by simp) ho p' hb hj, ho.blk h.b1 (by omega), ho.blk h.bl (by omega), ho.bel h.u (Nat.le_refl _), h.lt⟩
theorem SS.set (h : SS w W gl p A n c l KA kn kc) (i : Nat) (v : Value) (hp : (PL p A n c).set i v = PL p' A n c) (hj : p'.jt.q = p.jt.q) : SS w (W.setCell ⟨w.heap.size, i, none⟩ v) gl p' A n c l KA kn kc := h.over (OnlyB.setCell _ _ _ _) (h.m.box.set i v p' hp) hj
theorem SS.emit (h : SS w W gl p A n c l KA kn kc) (hm : PM W' [gl, w.heap.size + 1, w.heap.size] w.heap.size p' A n c l) (hl : Blk W' gl 69 #[.slice KA' kn' kc']) (hc : Chg [w.heap.size, gl] W W') : SS w W' gl p' A n c l KA' kn' kc' := by
 have := h.lt
 have := h.m.box.lt
 have := h.u.size
 have := h.bl.lt
 exact ⟨hm, hc.blk h.b1 (by simp; omega), hl, hc.bel h.u (by simp; omega), h.lt⟩
theorem SS.cell (h : SS w W gl p A n c l KA kn kc) (i : Nat) (v : Value) (hv : (PL p A n c)[i]? = some v) : W.cell? ⟨w.heap.size, i, none⟩ = some v := h.m.box.cell i v hv
end
theorem r139 (s : Nat → Value) : ((List.range 139).map s).toArray = #[s 0, s 1, s 2, s 3, s 4, s 5, s 6, s 7, s 8, s 9, s 10, s 11, s 12, s 13, s 14, s 15, s 16, s 17, s 18, s 19, s 20, s 21, s 22, s 23, s 24, s 25, s 26, s 27, s 28, s 29, s 30, s 31, s 32, s 33, s 34, s 35, s 36, s 37, s 38, s 39, s 40, s 41, s 42, s 43, s 44, s 45, s 46, s 47, s 48, s 49, s 50, s 51, s 52, s 53, s 54, s 55, s 56, s 57, s 58, s 59, s 60, s 61, s 62, s 63, s 64, s 65, s 66, s 67, s 68, s 69, s 70, s 71, s 72, s 73, s 74, s 75, s 76, s 77, s 78, s 79, s 80, s 81, s 82, s 83, s 84, s 85, s 86, s 87, s 88, s 89, s 90, s 91, s 92, s 93, s 94, s 95, s 96, s 97, s 98, s 99, s 100, s 101, s 102, s 103, s 104, s 105, s 106, s 107, s 108, s 109, s 110, s 111, s 112, s 113, s 114, s 115, s 116, s 117, s 118, s 119, s 120, s 121, s 122, s 123, s 124, s 125, s 126, s 127, s 128, s 129, s 130, s 131, s 132, s 133, s 134, s 135, s 136, s 137, s 138] := rfl
def FrS (g gl gq : Nat) (ZA : Option Addr) (zc : Nat) (qb : Bool) (a : Act) : Prop := Fr 139 [(1, .slice ZA 160 zc), (2, .pointer (some ⟨g, 0, none⟩)), (4, .pointer (some ⟨g + 1, 0, none⟩)), (7, .pointer (some ⟨gl, 0, none⟩)), (8, .func (.func 71) #[] #[.pointer (some ⟨gl, 0, none⟩), .pointer (some ⟨g, 0, none⟩)]), (9, .pointer (some ⟨gq, 0, none⟩)), (10, .bool qb)] a
theorem FrS.mk {g gl gq : Nat} {ZA : Option Addr} {zc : Nat} {qb : Bool} {xs : List Value} (h : xs.length = 139 := by rfl) (hL : AllL [(1, .slice ZA 160 zc), (2, .pointer (some ⟨g, 0, none⟩)), (4, .pointer (some ⟨g + 1, 0, none⟩)), (7, .pointer (some ⟨gl, 0, none⟩)), (8, .func (.func 71) #[] #[.pointer (some ⟨gl, 0, none⟩), .pointer (some ⟨g, 0, none⟩)]), (9, .pointer (some ⟨gq, 0, none⟩)), (10, .bool qb)] xs := by exact ⟨rfl, rfl, rfl, rfl, rfl, rfl, rfl, trivial⟩) : FrS g gl gq ZA zc qb ⟨xs.toArray, []⟩ := Fr.mk h hL
def FrT (g gl : Nat) (a : Act) : Prop := Fr 139 [(2, .pointer (some ⟨g, 0, none⟩)), (4, .pointer (some ⟨g + 1, 0, none⟩)), (7, .pointer (some ⟨gl, 0, none⟩))] a
theorem FrT.mk {g gl : Nat} {xs : List Value} (h : xs.length = 139 := by rfl) (hL : AllL [(2, .pointer (some ⟨g, 0, none⟩)), (4, .pointer (some ⟨g + 1, 0, none⟩)), (7, .pointer (some ⟨gl, 0, none⟩))] xs := by exact ⟨rfl, rfl, rfl, trivial⟩) : FrT g gl ⟨xs.toArray, []⟩ := Fr.mk h hL
noncomputable def sdB_code : Code := ((Tryz.f23.body.bind (fromBlk 0)).getD .skip)
noncomputable def sdT_code : Code := ((Tryz.f23.body.bind (fromReg 31)).getD .skip)
end Go.Proofs.YtahbecinkciahaaGreat
namespace Go.Proofs.YtahbecinkciahaaGreat
open Go.RowKit
structure PC (w : World) (p : Sb.Pt) (A : Option Addr) (l : List TW) (n c : Nat) : Prop where
 wf : p.wf
 q : l.map TW.w = p.jt.q
 len : l.length = n
 n5 : n ≤ 100000
 cap : n ≤ c
 cm : c ≤ maxLen
 av : Wts w w.heap.size A l
 sq : ∀ a ∈ l, I64 a.w.m.sq
 pay : ∀ a ∈ l, a.w.m.pl.length ≤ 1000000
theorem PC.later {w w' : World} {p : Sb.Pt} {A : Option Addr} {l : List TW} {n c : Nat} (h : PC w p A l n c) (hb : Below w.heap.size w w') : PC w' p A l n c := ⟨h.wf, h.q, h.len, h.n5, h.cap, h.cm, h.av.later hb, h.sq, h.pay⟩
def PortR (q : Sb.Pt) (er : Int) (w : World) (e : Ending) (w' : World) : Prop :=
 ∃ (A' : Option Addr) (n' c' : Nat) (l' : List TW), e = .returned (.tuple #[.agg (PA q A' n' c'), .int .u8 er]) ∧ l'.map TW.w = q.jt.q ∧ l'.length = n' ∧ n' ≤ c' ∧ c' ≤ maxLen ∧ WtsIn w' w.heap.size w'.heap.size A' l' ∧ Below w.heap.size w w'
theorem QOwn.inW {w : World} {base n c : Nat} {A : Option Addr} {l : List TW} (h : QOwn w base A n c l) : WtsIn w base w.heap.size A l :=
 ⟨h.wts, fun h0 b off e => (h.own.block b (by rw [e]; rfl)).1, h.new, h.cap⟩
theorem zem (T : Ev.Snd) : T.row = #[.bool T.on, .int .u8 T.code, .int .u8 T.vol, .int .u32 T.start, .int .i64 T.len, .int .i64 T.ends] := rfl
def PW (W : World) (q : Sb.Pt) (A : Option Addr) (n : Nat) : Prop := ∃ l : List TW, l.map TW.w = q.jt.q ∧ l.length = n ∧ Wts W W.heap.size A l
theorem PW.later {W W' : World} {q : Sb.Pt} {A : Option Addr} {n : Nat} (h : PW W q A n) (hb : Below W.heap.size W W') : PW W' q A n := by
 obtain ⟨l, h1, h2, h3⟩ := h
 exact ⟨l, h1, h2, h3.later hb⟩
theorem PW.zero {W : World} : PW W Sb.Pt.zero none 0 := ⟨[], rfl, rfl, fun h => absurd h (by simp), fun _ h => by cases h⟩
theorem PC.pw {w W : World} {p q : Sb.Pt} {A : Option Addr} {l : List TW} {n c : Nat} (h : PC w p A l n c) (u : Bel w W) (hj : q.jt = p.jt) : PW W q A n := ⟨l, h.q.trans (by rw [hj]), h.len, h.av.later u⟩
def RPort (q : Sb.Pt) (er : Int) (w : World) (e : Ending) (w' : World) : Prop := ∃ (A : Option Addr) (n c : Nat), e = .returned (.tuple #[.agg (PA q A n c), .int .u8 er]) ∧ PW w' q A n ∧ Below w.heap.size w w'
theorem RPort.of {q : Sb.Pt} {er : Int} {w : World} {e : Ending} {w' : World} (h : PortR q er w e w') : RPort q er w e w' := by
 obtain ⟨A, n, c, l, h1, h2, h3, _, _, h6, h7⟩ := h
 exact ⟨A, n, c, h1, ⟨l, h2, h3, h6.rows⟩, h7⟩
structure RB (w W : World) (p : Sb.Pt) (A : Option Addr) (n c : Nat) : Prop where
 b0 : PB W w.heap.size p A n c
 b1 : PB W (w.heap.size + 1) Sb.Pt.zero none 0 0
 u : Bel w W
section
variable {w W W' : World} {p p' : Sb.Pt} {A A' : Option Addr} {n n' c c' : Nat}
theorem RB.new (w : World) (X : Array Value) (hX : X = PA p A n c) : RB w ((w.alloc (.cells X 48)).alloc (.cells (PA Sb.Pt.zero none 0 0) 48)) p A n c := ⟨(PB.new w X hX).push _, Blk.new1 _ _ _ _, ((Bel.refl w).push _).push _⟩
theorem RB.later (h : RB w W p A n c) (hb : Below W.heap.size W W') : RB w W' p A n c := ⟨h.b0.later hb, h.b1.later hb, h.u.later hb⟩
theorem RB.push (h : RB w W p A n c) (o : Obj) : RB w (W.alloc o) p A n c := h.later ((Below.refl _ _).alloc (Nat.le_refl _) _)
theorem RB.over (h : RB w W p A n c) (ho : OnlyB w.heap.size W W') (hb : PB W' w.heap.size p' A' n' c') : RB w W' p' A' n' c' := ⟨hb, ho.blk h.b1 (by omega), ho.bel h.u (Nat.le_refl _)⟩
theorem RB.set (h : RB w W p A n c) (i : Nat) (v : Value) (hp : (PL p A n c).set i v = PL p' A n c) : RB w (W.setCell ⟨w.heap.size, i, none⟩ v) p' A n c := h.over (OnlyB.setCell _ _ _ _) (h.b0.set i v p' hp)
theorem RB.far (h : RB w W p A n c) {g : Nat} (ho : OnlyB g W W') (hg : w.heap.size + 1 < g) : RB w W' p A n c := ⟨ho.blk h.b0 (by omega), ho.blk h.b1 (by omega), ho.bel h.u (by omega)⟩
theorem RB.lt (h : RB w W p A n c) : w.heap.size + 1 < W.heap.size := Blk.lt h.b1
theorem RB.cell (h : RB w W p A n c) (i : Nat) (v : Value) (hv : (PL p A n c)[i]? = some v) : W.cell? ⟨w.heap.size, i, none⟩ = some v := h.b0.cell i v hv
end
end Go.Proofs.YtahbecinkciahaaGreat
namespace Go.Proofs.YtahbecinkciahaaGreat
attribute [local go_sem ↓] zac zad
attribute [local go_sem] zab zag
open Go.RowKit
theorem zqj (p : Sb.Pt) (A : Option Addr) (l : List TW) (n c : Nat) (X : Array Value) (hX : X = PA p A n c) (w : World) (hn : l.length = n) (hA : Wts w w.heap.size A l) (v : Bool) (hv : v = decide (l.length ≤ 220 ∧ ∀ a ∈ l, a.w.m.pl.length ≤ 2000)) : Calls Tryz.prog 10 #[.agg X] w fun e w' => e = .returned (.bool v) ∧ Below w.heap.size w w' := by
 subst hn
 have HA := H9 hA
 have HV := H9 hv
 have BS := H9 (PB.new w X hX)
 have U0 := H9 ((Bel.refl w).push (.cells X 48))
 clear hA hv hX
 by_cases h220 : l.length ≤ 220
 rotate_left
 · have hv : v = false := by rw [HV.out, decide_eq_false_iff_not]; intro h; exact h220 h.1
   subst hv
   have h221 : (220 : Int) < (l.length : Int) := by omega
   go_enter Tryz.func10, Tryz.ntmps10
   go_upto_region 1 with fail
   obtain ⟨W, hW⟩ : ∃ W, W = w.alloc (Obj.cells X 48) := ⟨_, rfl⟩
   rw [← hW] at BS U0 ⊢
   clear hW
   have g10 := PB.cell BS.out 24 _ rfl
   go_wp2_with fail
   go_ret
   exact ⟨by first | rfl | simp, U0.out⟩
 have h221 : (l.length : Int) ≤ (220 : Int) := by omega
 go_enter Tryz.func10, Tryz.ntmps10
 go_upto_region 1 with fail
 obtain ⟨W, hW⟩ : ∃ W, W = w.alloc (Obj.cells X 48) := ⟨_, rfl⟩
 rw [← hW] at BS U0 ⊢
 clear hW
 have g10 := PB.cell BS.out 24 _ rfl
 go_wp2_with fail
 clear g10
 go_loopg [3] l.length (fun gk i wr => ∃ k : Nat, gk + k = l.length ∧ i = .int .i64 k ∧ Hid (∀ a ∈ l.take k, a.w.m.pl.length ≤ 2000) ∧ Hid (PB wr w.heap.size p A l.length c) ∧ Hid (Bel w wr))
 case atStart => exact ⟨0, rfl, rfl, H9 (fun a h => by simp at h), BS, U0⟩
 case round =>
  clear BS U0
  obtain ⟨k, hgk, rfl, HT, BS, U⟩ := hrel
  have hi0 : (0 : Int) ≤ (k : Int) := by omega
  have g10 := PB.cell BS.out 24 _ rfl
  by_cases hk : k < l.length
  rotate_left
  · obtain rfl : k = l.length := by omega
    have hi1 : (l.length : Int) ≤ (l.length : Int) := Int.le_refl _
    have hv : v = true := by rw [HV.out, decide_eq_true_iff]; exact ⟨h220, by have h9 := HT.out; rwa [List.take_of_length_le (Nat.le_refl _)] at h9⟩
    subst hv
    go_wp2_with fail
    go_ret
    exact ⟨by first | rfl | simp, U.out⟩
  have hi1 : (k : Int) < (l.length : Int) := by omega
  obtain ⟨a, ha⟩ : ∃ a, l[k]? = some a := ⟨_, List.getElem?_eq_getElem hk⟩
  obtain ⟨b, off, rfl, hbB, e0, e1, e2, e3, e4, e5⟩ := zcj (HA.out.1.keep (fun p hp => U.out.cell hp)) ha
  have HAA := H9 ha
  clear ha e0 e1 e2 e3 e4
  by_cases hpl : 2000 < a.w.m.pl.length
  · have hv : v = false := by rw [HV.out, decide_eq_false_iff_not]; intro h; have := h.2 a (List.mem_of_getElem? HAA.out); omega
    subst hv
    have hpl' : (2000 : Int) < (a.w.m.pl.length : Int) := by omega
    go_wp2_with fail
    go_ret
    exact ⟨by first | rfl | simp, U.out⟩
  · have hpl' : (a.w.m.pl.length : Int) ≤ (2000 : Int) := by omega
    have HPL := H9 hpl
    clear hpl
    go_wp2_with fail
    go_roundg (gk - 1)
    case measure => omega
    case rel =>
     refine ⟨k + 1, by omega, by go_num, H9 (fun x hx => ?_), BS, U⟩
     rw [List.take_add_one, HAA.out] at hx
     rcases List.mem_append.1 hx with hx | hx
     · exact HT.out x hx
     · simp at hx
       subst hx
       have := HPL.out
       omega
end Go.Proofs.YtahbecinkciahaaGreat
namespace Go.Proofs.YtahbecinkciahaaGreat.Sb
open Go.RowKit
structure NumI (sr : Int) (p : Pt) (i row many : Nat) : Prop where
 codec : p.codec = 8
 src : p.src = sr
 seq : p.seq = (many : Int)
 time : p.time = 160 * (i : Int)
 below : p.below = min (row : Int) 10
 cv : p.cv = 0
 ci : p.ci = 0
 tn : p.tn = Ev.Snd.zero
 jt : p.jt = (Jb.new 40 200).1
 tk : p.tk = Pk.Tr.zero
 ht : p.ht = 0
 pk : p.pk = (many : Int)
 oc : 0 ≤ p.oc ∧ p.oc ≤ 4294967295
 seed : p.seed = sr
 le : many ≤ i
 i60 : i ≤ 60
def rowN (row : Nat) (zs : List Int) : Nat := if Ev.lev zs < 60 then 0 else row + 1
theorem jb40 : Jb.valid (Jb.new 40 200).1 = true ∧ (Jb.new 40 200).1.q = [] ∧ (Jb.new 40 200).2 = 0 := by decide +kernel
theorem tn0 : Ev.Snd.zero.valid = true := by decide
theorem NumI.valid {src : Int} {p : Pt} {i row many : Nat} (h : NumI src p i row many) : p.valid = true := by
 unfold Pt.valid
 have hn : p.near := by unfold Pt.near; rw [h.tk, h.ht]; decide
 rw [h.codec, h.cv, h.ci, h.jt, h.tn, jb40.1, tn0, decide_eq_true hn]
 decide
theorem NumI.wf {src : Int} {p : Pt} {i row many : Nat} (h : NumI src p i row many) (hs : 0 ≤ src ∧ src ≤ 4294967295) : p.wf := by
 have h1 := h.le
 have h2 := h.i60
 constructor
 · rw [h.codec]; omega
 · rw [h.src]; exact hs
 · rw [h.seq]; omega
 · rw [h.time]; omega
 · rw [h.below]; omega
 · rw [h.tn]; decide
 · rw [h.tn]; decide
 · rw [h.tn]; decide
 · rw [h.seed]; exact hs
 · rw [h.pk]; omega
 · exact h.oc
theorem NumI.start {src : Int} (hs : 0 ≤ src ∧ src ≤ 4294967295) : NumI src (new 8 src 40 200).1 0 0 0 ∧ (new 8 src 40 200).2 = 0 := by
 have e : new 8 src 40 200 = ({ Pt.zero with codec := 8, src := src, mrk := true, jt := (Jb.new 40 200).1, seed := src }, 0) := by
  unfold new
  rw [if_neg (by decide), if_pos (by decide)]
 rw [e]
 exact ⟨⟨rfl, rfl, rfl, rfl, rfl, rfl, rfl, rfl, rfl, rfl, rfl, rfl, (show (0 : Int) ≤ 0 ∧ (0 : Int) ≤ 4294967295 by decide), rfl, Nat.le_refl _, by omega⟩, rfl⟩
theorem NumI.step {src : Int} {p : Pt} {i row many : Nat} (h : NumI src p i row many) (zs : List Int) (hi : i < 60) (hl : zs.length = 160) :
 ∃ more : Nat, (send0 p zs).2.length = more ∧ more ≤ 1 ∧ (more = 0 ↔ 10 < rowN row zs) ∧ NumI src (send0 p zs).1 (i + 1) (rowN row zs) (many + more) ∧
  ∀ k ∈ (send0 p zs).2, k.sq = (many : Int) ∧ k.ti = 160 * (i : Int) ∧ k.src = src ∧ ((k.ty = 13) ↔ rowN row zs = 10) := by
 have h1 := h.le
 have hq : Ev.quiet p.below zs = min (rowN row zs : Int) 10 := by
  unfold Ev.quiet rowN
  rw [h.below]
  split <;> omega
 have ht : ¬(p.tn.on = true ∨ p.tn.ends ≠ 0) := by rw [h.tn]; decide
 unfold send0
 rw [if_neg ht, hq]
 by_cases hs : min (rowN row zs : Int) 10 = 10
 · rw [if_pos hs]
   have hr : rowN row zs = row + 1 := by unfold rowN at hs ⊢; split at hs <;> rename_i hh; omega; rw [if_neg hh]
   by_cases hb : p.below < 10
   · rw [if_pos hb]
     rw [h.below] at hb
     refine ⟨1, rfl, Nat.le_refl _, by omega, ⟨h.codec, h.src, ?_, ?_, rfl, h.cv, h.ci, h.tn, h.jt, h.tk, h.ht, ?_, ?_, h.seed, by omega, by omega⟩, ?_⟩
     · show (p.seq + 1) % 65536 = _; rw [h.seq]; omega
     · show (p.time + 160) % 4294967296 = _; rw [h.time]; omega
     · show (p.pk + 1) % 4294967296 = _; rw [h.pk]; omega
     · show 0 ≤ (p.oc + _) % 4294967296 ∧ (p.oc + _) % 4294967296 ≤ 4294967295; omega
     · intro k hk
       obtain rfl := List.mem_singleton.1 hk
       exact ⟨h.seq, h.time, h.src, by simp [emit]; omega⟩
   · rw [if_neg hb]
     rw [h.below] at hb
     refine ⟨0, rfl, by omega, by omega, ⟨h.codec, h.src, h.seq, ?_, rfl, h.cv, h.ci, h.tn, h.jt, h.tk, h.ht, h.pk, h.oc, h.seed, by omega, by omega⟩, ?_⟩
     · show (p.time + 160) % 4294967296 = _; rw [h.time]; omega
     · intro k hk; cases hk
 · rw [if_neg hs]
   refine ⟨1, rfl, Nat.le_refl _, by omega, ⟨h.codec, h.src, ?_, ?_, rfl, ?_, ?_, h.tn, h.jt, h.tk, h.ht, ?_, ?_, h.seed, by omega, by omega⟩, ?_⟩
   · show (p.seq + 1) % 65536 = _; rw [h.seq]; omega
   · show (p.time + 160) % 4294967296 = _; rw [h.time]; omega
   · show (enc p.codec (p.cv, p.ci) zs).2.1 = 0
     rw [h.codec]; exact h.cv
   · show (enc p.codec (p.cv, p.ci) zs).2.2 = 0
     rw [h.codec]; exact h.ci
   · show (p.pk + 1) % 4294967296 = _; rw [h.pk]; omega
   · show 0 ≤ (p.oc + _) % 4294967296 ∧ (p.oc + _) % 4294967296 ≤ 4294967295; omega
   · intro k hk
     obtain rfl := List.mem_singleton.1 hk
     refine ⟨h.seq, h.time, h.src, ?_⟩
     show p.codec = 13 ↔ _
     rw [h.codec]
     omega
def flatL (v : Int) : List Int := List.replicate 160 v
theorem flatL_len (v : Int) : (flatL v).length = 160 := List.length_replicate
theorem flatL_in {v : Int} (h0 : -32768 ≤ v) (h1 : v ≤ 32767) : ∀ z ∈ flatL v, -32768 ≤ z ∧ z ≤ 32767 := fun z hz => by
 obtain rfl := List.eq_of_mem_replicate hz
 exact ⟨h0, h1⟩
def lv0 : Pt := { Pt.zero with codec := 0, src := 7, mrk := true, jt := (Jb.new 40 200).1, seed := 7 }
theorem lv_new : new 0 7 40 200 = (lv0, 0) := by
 unfold new
 rw [if_neg (by decide), if_pos (by decide)]; rfl
theorem zsl : lv0.near := by unfold Pt.near lv0; decide
theorem lv_valid : lv0.valid = true := by
 unfold Pt.valid
 rw [decide_eq_true zsl]
 show (speechB 0 && Dlt.valid 0 0 && Jb.valid (Jb.new 40 200).1 && Ev.Snd.zero.valid && true) = true
 rw [jb40.1, tn0]; decide
theorem lv_wf : lv0.wf := by constructor <;> decide
theorem zoi (q : Int) : Ev.quiet q (flatL 1000) = 0 := by
 have h : Ev.lev (flatL 1000) < 60 := by decide +kernel
 unfold Ev.quiet; rw [if_pos h]
theorem ztr : (flatL 1000).map Cmp.muZ = flatL 206 := by decide +kernel
theorem lv_send : (send0 lv0 (flatL 1000)).2 = [⟨true, 0, 0, 0, 7, flatL 206⟩] ∧ (send0 lv0 (flatL 1000)).1.time = 160 := by
 have ht : ¬(lv0.tn.on = true ∨ lv0.tn.ends ≠ 0) := by decide
 unfold send0
 rw [if_neg ht, zoi, if_neg (by decide)]
 refine ⟨?_, rfl⟩
 show [(⟨true, 0, 0, 0, 7, (flatL 1000).map Cmp.muZ⟩ : Pkt)] = _
 rw [ztr]
def lvx : Arr := ⟨true, 0, 0, 0, flatL 206⟩
theorem lv_follow : Pk.follow lv0.tk 0 = (⟨true, 0, -1⟩, 0, true) := by
 show Pk.follow Pk.Tr.zero 0 = _
 unfold Pk.follow
 rw [if_neg (fun hn => hn (by decide)), if_pos (show Pk.Tr.zero.on = false from rfl)]
def lvm : Jb.Md := ⟨0, 0, true, 0, flatL 206⟩
theorem lv_put : (Jb.put (Jb.new 40 200).1 100 lvm).1 = ⟨40, 200, 100, true, 140, 0, 0, -1, 0, 100, [⟨140, lvm⟩], 0, 0, 0⟩ ∧ (Jb.put (Jb.new 40 200).1 100 lvm).2 = ([], 1, 0) := by
 have e : Jb.put (Jb.new 40 200).1 100 lvm = (⟨40, 200, 100, true, 140, 0, 0, -1, 0, 100, [⟨140, lvm⟩], 0, 0, 0⟩, [], 1, 0) := by
  have h0 : Jb.chk (Jb.new 40 200).1 100 (decide lvm.ok) = 0 := by decide +kernel
  unfold Jb.put
  rw [if_pos h0]
  rfl
 rw [e]; exact ⟨rfl, rfl⟩
def lv1 : Pt := { lv0 with tk := ⟨true, 0, -1⟩, ht := 0, st := Rep.arrive Rep.St.zero 0 800 0, jt := ⟨40, 200, 100, true, 140, 0, 0, -1, 0, 100, [⟨140, lvm⟩], 0, 0, 0⟩ }
theorem zqk : lv1.near := by unfold Pt.near lv1; decide
theorem lv1_valid : lv1.valid = true := by
 have hj : Jb.valid lv1.jt = true := by decide +kernel
 unfold Pt.valid
 rw [decide_eq_true zqk, hj]
 show (speechB 0 && Dlt.valid 0 0 && true && Ev.Snd.zero.valid && true) = true
 rw [tn0]; decide
theorem lv1_wf : lv1.wf := by constructor <;> decide
theorem zts : (flatL 206).map Cmp.fromMuZ = flatL 988 := by decide +kernel
theorem ztt : (Jb.run lv1.jt 140).2 = ([⟨140, lvm⟩], 0) := by
 have h0 : Jb.chk lv1.jt 140 true = 0 := by decide +kernel
 unfold Jb.run
 rw [if_pos h0]
 rfl
theorem lv_run : (run lv1 140).2 = [⟨140, flatL 988, []⟩] := by
 unfold run
 rw [ztt]
 show [(⟨140, (flatL 206).map Cmp.fromMuZ, []⟩ : Sd)] = _
 rw [zts]
end Go.Proofs.YtahbecinkciahaaGreat.Sb
namespace Go.Proofs.YtahbecinkciahaaGreat
open Go.RowKit
theorem zql (A B : Option Addr) (zs : List Int) (n c d : Nat) (hn : zs.length = n) (w : World) (hA : IntsAt w w.heap.size .i16 A zs) (hB : IntsAt w w.heap.size .i16 B zs) (h63 : n ≤ 140737488355328) :
 Calls Tryz.prog 33 #[.slice A n c, .slice B n d] w fun e w' => e = .returned (.bool true) ∧ Below w.heap.size w w' := by
 subst hn
 go_enter Tryz.func33, Tryz.ntmps33
 go_wp2
 go_loopw [5] (fun i wr => ∃ k : Nat, k ≤ zs.length ∧ i = .int .i64 k ∧ Below w.heap.size w wr) (fun i _ => zs.length - (intOf i).toNat)
 case atStart => exact ⟨0, Nat.zero_le _, rfl, Below.refl _ _⟩
 case round =>
  obtain ⟨k, hk, rfl, hb⟩ := hrel
  by_cases hlt : k < zs.length
  · obtain ⟨b, off, rfl, hbB, qc⟩ := hA (by omega)
    obtain ⟨b2, off2, rfl, hbB2, hcell2⟩ := hB (by omega)
    have hck : wr.cell? ⟨b, off + k, none⟩ = some (.int .i16 (zs.getD k 0)) := (hb.cell (p := ⟨b, off + k, none⟩) hbB).trans (qc k hlt)
    have hck2 : wr.cell? ⟨b2, off2 + k, none⟩ = some (.int .i16 (zs.getD k 0)) := (hb.cell (p := ⟨b2, off2 + k, none⟩) hbB2).trans (hcell2 k hlt)
    clear qc hcell2
    generalize zs.getD k 0 = z at hck hck2
    have hi0 : (0 : Int) ≤ (k : Int) := by omega
    have hi1 : (k : Int) < (zs.length : Int) := by omega
    go_wp2
    go_quiet (fail)
    go_wp2
    go_roundw
    case rel => exact ⟨k + 1, by omega, by go_num, Bel.drewN hb _⟩
    case measure => simp [intOf]; omega
  · go_wp2
    go_ret
    exact ⟨rfl, hb⟩
end Go.Proofs.YtahbecinkciahaaGreat
namespace Go.Proofs.YtahbecinkciahaaGreat
attribute [local go_sem ↓] zac zad
attribute [local go_sem] zab zag
open Go.RowKit
theorem ztu : (Tryz.prog.info? 93).map (fun i => (i.zero, i.size, i.bytes)) = some (some (.int .i16 0), 1, 2) := by kernel_rfl
def SliceR (zs : List Int) (w : World) (e : Ending) (w' : World) : Prop := ∃ (A : Option Addr) (c : Nat), e = .returned (.slice A 160 c) ∧ IntsNew w.heap.size w' .i16 A zs ∧ Below w.heap.size w w'
theorem zgs (v : Int) (w : World) : Calls Tryz.prog 35 #[.int .i16 v] w (SliceR (Sb.flatL v) w) := by
 go_enter Tryz.func35, Tryz.ntmps35
 go_wp2
 go_loopw [3, 4] (fun o i wr => ∃ (k : Nat) (A' : Option Addr) (c' : Nat), k ≤ 160 ∧ i = .int .i64 k ∧ o = .slice A' k c' ∧ Owns wr w.heap.size 93 1 A' k c' ((List.replicate k v).map (Value.int .i16)) ∧ Below w.heap.size w wr) (fun _ i _ => 160 - (intOf i).toNat)
 case atStart => exact ⟨0, none, 0, Nat.zero_le _, rfl, rfl, Owns.nil, Below.refl _ _⟩
 case round =>
  obtain ⟨k, A', c', hk, rfl, rfl, ho, hb⟩ := hrel
  have HO := H9 ho
  have HB := H9 hb
  have hbs := hb.size
  have hi0 : (0 : Int) ≤ (k : Int) := by omega
  clear ho hb
  by_cases hlt : k < 160
  · have hi1 : (k : Int) < 160 := by omega
    go_wp2_with (at_builtin; go_loud (refine zbl rfl _ _ 66 rfl w.heap.size 93 1 2 (.int .i16 0) Tryz.underlying66 ztu rfl (by decide) A' k c' _ rfl HO.out [.int .i16 _] rfl (by simp [Value.oneCell']) rfl (by unfold maxLen; omega) (by omega) hbs ?_); intro A2 c2 w2 hown2 hg2 hlt2)
    go_roundw
    case rel =>
     refine ⟨k + 1, A2, c2, by omega, by go_num, rfl, ?_, zcx HB.out HO.out hg2 hbs (Nat.le_refl _)⟩
     rw [List.replicate_succ', List.map_append]
     exact hown2
    case measure => simp [intOf]; omega
  · obtain rfl : k = 160 := by omega
    go_wp2
    go_ret
    exact ⟨_, _, rfl, IntsNew.of_own HO.out (Nat.le_refl _), HB.out⟩
def WaveR (w : World) (e : Ending) (w' : World) : Prop := ∃ (zs : List Int) (A : Option Addr) (c : Nat), zs.length = 160 ∧ Within (-32768) 32767 zs ∧ e = .returned (.slice A 160 c) ∧ IntsNew w.heap.size w' .i16 A zs ∧ Below w.heap.size w w'
theorem zme (w : World) : Calls Tryz.prog 34 #[] w fun e w' => e = .returned (.agg #[.int .i64 40, .int .i64 200]) ∧ Below w.heap.size w w' := by
 go_enter Tryz.func34, Tryz.ntmps34
 go_wp2_with fail
 refine bodyPost_ret (v := .agg #[.int .i64 40, .int .i64 200]) (zcl Tryz.results34 rfl (run_loadVar_row (P := Tryz.prog) _ _ _ _ _ _ _ (Blk.new w 37 #[.int .i64 40, .int .i64 200]) Tryz.underlying37 rfl (by kernel_rfl))) rfl ⟨rfl, (Bel.refl w).push _⟩
theorem zqm {w : World} {p : Sb.Pt} {A : Option Addr} {l : List TW} {n c : Nat} {x : Rx} {now : Int} {X : Array Value} {R : Ending → World → Prop} (C : RC w p A l n c x now) (hw : p.wf) (hX : X = PA p A n c) (hc : Sb.chkT p now = 0)
 (h : ∀ (W : World) (a : Act), RS w W p A n c x → FrA w.heap.size now a → firstWp Tryz.prog rcA_code (bodyPost Tryz.prog Tryz.f11 R) a W) : Calls Tryz.prog 11 #[.agg X, .int .i64 now, .agg x.row] w R := by
 have S : RS w (((w.alloc (Obj.cells X 48)).alloc (Obj.cells x.row 51)).alloc (Obj.cells (PA Sb.Pt.zero none 0 0) 48)) p A n c x := ⟨((PB.new w X hX).push (.cells x.row 51)).push (.cells (PA Sb.Pt.zero none 0 0) 48), (Blk.new1 w (.cells X 48) 51 x.row).push (.cells (PA Sb.Pt.zero none 0 0) 48), Blk.new2 w (.cells X 48) (.cells x.row 51) 48 (PA Sb.Pt.zero none 0 0), (((Bel.refl w).push (.cells X 48)).push (.cells x.row 51)).push (.cells (PA Sb.Pt.zero none 0 0) 48)⟩
 have k1 := H9 fun (W : World) hW => zdr p hw A l n c (PA p A n c) rfl W C.q C.len C.n5 hW C.sq now
 rw [hc] at k1
 have hl15 : (x.pl.length : Int) ≤ 1500 := by have := C.h15; omega
 clear hX hc hw
 go_enter Tryz.func11, Tryz.ntmps11
 go_upto_region 1 with fail
 change Code.wp _ _ _ _ (((w.alloc (Obj.cells X 48)).alloc (Obj.cells x.row 51)).alloc (Obj.cells (PA Sb.Pt.zero none 0 0) 48))
 obtain ⟨W, hW⟩ : ∃ W, W = ((w.alloc (Obj.cells X 48)).alloc (Obj.cells x.row 51)).alloc (Obj.cells (PA Sb.Pt.zero none 0 0) 48) := ⟨_, rfl⟩
 rw [← hW] at S ⊢
 clear hW
 go_wp2_with (first | (refine zae rfl 48 (.tmp 3) rfl (w.heap.size) 0 rfl 48 (PL p A n c) S.b0 48 _ Tryz.underlying48 zah (show 0 + 48 ≤ 48 by decide) (PA p A n c) (by rfl) rfl ?_) | fail)
 refine (k1.out _ (C.av.later S.u)).mono ?_
 rintro e w1 ⟨rfl, hb1⟩
 replace S := S.later hb1
 clear hb1 k1
 have x9 := S.c9
 go_upto_region 6 with fail
 clear x9
 refine zcv (by assumption) ?_
 exact h _ _ S FrA.mk
theorem ztv {w W : World} {p : Sb.Pt} {A : Option Addr} {l : List TW} {n c : Nat} {x : Rx} {now : Int} (C : RC w p A l n c x now) (S : RS w W p A n c x) {R : Ending → World → Prop} (h101 : ¬x.ty = 101)
 (h : ∀ (W : World) (a : Act) (gt : Nat), RS w W p A n c x → Blk W gt 108 #[.int .u8 0, .bool false, .int .u8 0, .int .u16 0] → w.heap.size < gt → FrB w.heap.size now gt (speechB x.ty || x.ty == 13) a → firstWp Tryz.prog rcB_code (bodyPost Tryz.prog Tryz.f11 R) a W) (a : Act) (ha : FrA w.heap.size now a) : firstWp Tryz.prog rcA_code (bodyPost Tryz.prog Tryz.f11 R) a W := by
 obtain ⟨s, rfl, e1, e3, e5, e6, _⟩ := ha
 rw [r164, e1, e3, e5, e6]
 clear e1 e3 e5 e6
 have k2 := H9 fun W => zds x.ty W C.ty0 C.ty1
 refine zec ?_
 intro _ _
 have BT := H9 (Blk.new W 108 #[.int .u8 0, .bool false, .int .u8 0, .int .u16 0])
 have hgt' : w.heap.size < W.heap.size := by have := S.b2.lt; omega
 replace S := S.push (.cells #[.int .u8 0, .bool false, .int .u8 0, .int .u16 0] 108)
 obtain ⟨W2, hW2⟩ : ∃ V, V = W.alloc (Obj.cells #[.int .u8 0, .bool false, .int .u8 0, .int .u16 0] 108) := ⟨_, rfl⟩
 go_upto_region 7 with fail
 rw [← hW2] at S BT ⊢
 obtain ⟨gt, hgt⟩ : ∃ g, g = W.heap.size := ⟨_, rfl⟩
 rw [← hgt] at BT hgt' ⊢
 clear hW2 hgt
 have x1 := S.c1
 go_wp2_with fail
 refine (k2.out _).mono ?_
 rintro e w3 ⟨rfl, hb1⟩
 replace S := S.later hb1
 replace BT := H9 (BT.out.later hb1)
 clear hb1 k2 x1
 have x1 := S.c1
 cases hs : speechB x.ty
 · rw [hs] at h
   clear hs
   by_cases h13 : x.ty = 13
   · rw [h13] at x1 h
     go_upto_region 11 with fail
     refine zeh (by assumption) (by assumption) ?_
     exact h _ _ _ S BT.out hgt' FrB.mk
   · have h13b : (x.ty == 13) = false := by simpa using h13
     rw [h13b] at h
     go_upto_region 11 with fail
     refine zeh (by assumption) (by assumption) ?_
     exact h _ _ _ S BT.out hgt' FrB.mk
 · rw [hs] at h
   clear hs
   go_upto_region 11 with fail
   refine zeh (by assumption) (by assumption) ?_
   exact h _ _ _ S BT.out hgt' FrB.mk
theorem zgt {k : IntKind} {a b : Int} (h : a = b) : Ending.returned (.int k a) = .returned (.int k b) := by rw [h]
theorem zap (x : Int) (h0 : -9223372036854775808 ≤ x) (h1 : x ≤ 9223372036854775807) : IntKind.i64.wrap x = x := by
 by_cases h : 0 ≤ x
 · have e : x % 2 ^ 64 = x := Int.emod_eq_of_lt h (by omega)
   simp only [IntKind.wrap, IntKind.bits, IntKind.signed, e]
   rw [if_neg (by simp; omega)]
 · have e : x % 2 ^ 64 = x + 2 ^ 64 := by omega
   simp only [IntKind.wrap, IntKind.bits, IntKind.signed, e]
   rw [if_pos (by simp; omega)]
   omega
theorem zdb (n : Int) : IntKind.u16.wrap n = n % 65536 := by simp [IntKind.wrap, IntKind.bits, IntKind.signed]
theorem zbz (z : Int) : bits BinOp.and IntKind.i64 z 65535 = z % 65536 := by
 show IntKind.i64.wrap (((BitVec.ofInt 64 z &&& BitVec.ofInt 64 65535).toNat : Nat) : Int) = _
 have e : (BitVec.ofInt 64 65535).toNat = 2 ^ 16 - 1 := by decide
 rw [BitVec.toNat_and, e, Nat.and_two_pow_sub_one_eq_mod, BitVec.toNat_ofInt]
 have h : (((z % (2 ^ 64 : Nat)).toNat % 2 ^ 16 : Nat) : Int) = z % 65536 := by omega
 rw [h, zap _ (by omega) (by omega)]
theorem zmf (z : Int) : bits BinOp.and IntKind.i64 z 4294967295 = z % 4294967296 := by
 show IntKind.i64.wrap (((BitVec.ofInt 64 z &&& BitVec.ofInt 64 4294967295).toNat : Nat) : Int) = _
 have e : (BitVec.ofInt 64 4294967295).toNat = 2 ^ 32 - 1 := by decide
 rw [BitVec.toNat_and, e, Nat.and_two_pow_sub_one_eq_mod, BitVec.toNat_ofInt]
 have h : (((z % (2 ^ 64 : Nat)).toNat % 2 ^ 32 : Nat) : Int) = z % 4294967296 := by omega
 rw [h, zap _ (by omega) (by omega)]
section
variable (last x a b : Int) (w : World)
theorem zmg (x0 : 0 ≤ x) (x1 : x ≤ 65535) (l0 : -9223372036854775808 ≤ last) (l1 : last ≤ 9223372036854775807) : Calls Tryz.prog 98 #[.int .i64 last, .int .i64 x, .int .i64 65536] w fun e w' => e = .returned (.int .i64 (Pk.near last x 65536)) ∧ w = w' := by
 obtain ⟨R, hR⟩ : ∃ R, R = Pk.near last x 65536 := ⟨_, rfl⟩
 rw [← hR]
 unfold Pk.near at hR
 by_cases h1 : last < -1152921504606846976
 · rw [if_pos (.inl h1)] at hR
   subst hR
   go_enter Tryz.func98, Tryz.ntmps98
   go_wp2
   go_ret
   exact ⟨rfl, rfl⟩
 by_cases h2 : 1152921504606846976 < last
 · rw [if_pos (.inr h2)] at hR
   subst hR
   go_enter Tryz.func98, Tryz.ntmps98
   go_wp2
   go_ret
   exact ⟨rfl, rfl⟩
 rw [if_neg (by omega)] at hR
 have h1' : -1152921504606846976 ≤ last := by omega
 have h2' : last ≤ 1152921504606846976 := by omega
 have hmk := zbz (x - last)
 obtain ⟨d, hd⟩ : ∃ d, d = (x - last) % 65536 := ⟨_, rfl⟩
 have hd0 : 0 ≤ d := by omega
 have hd1 : d ≤ 65535 := by omega
 rw [← hd] at hR hmk
 rw [show (65536 : Int) / 2 = 32768 by decide] at hR
 clear h1 h2
 clear hd
 by_cases h3 : 32768 < d
 · rw [if_pos h3] at hR
   have HR := H9 hR
   clear hR
   go_enter Tryz.func98, Tryz.ntmps98
   go_wp2
   go_ret
   exact ⟨zgt (by have := HR.out; omega), rfl⟩
 · rw [if_neg h3] at hR
   have HR := H9 hR
   have h3' : d ≤ 32768 := by omega
   clear hR h3
   go_enter Tryz.func98, Tryz.ntmps98
   go_wp2
   go_ret
   exact ⟨zgt (by have := HR.out; omega), rfl⟩
theorem zmh (x0 : 0 ≤ x) (x1 : x ≤ 4294967295) (l0 : -9223372036854775808 ≤ last) (l1 : last ≤ 9223372036854775807) : Calls Tryz.prog 98 #[.int .i64 last, .int .i64 x, .int .i64 4294967296] w fun e w' => e = .returned (.int .i64 (Pk.near last x 4294967296)) ∧ w = w' := by
 obtain ⟨R, hR⟩ : ∃ R, R = Pk.near last x 4294967296 := ⟨_, rfl⟩
 rw [← hR]
 unfold Pk.near at hR
 by_cases h1 : last < -1152921504606846976
 · rw [if_pos (.inl h1)] at hR
   subst hR
   go_enter Tryz.func98, Tryz.ntmps98
   go_wp2
   go_ret
   exact ⟨rfl, rfl⟩
 by_cases h2 : 1152921504606846976 < last
 · rw [if_pos (.inr h2)] at hR
   subst hR
   go_enter Tryz.func98, Tryz.ntmps98
   go_wp2
   go_ret
   exact ⟨rfl, rfl⟩
 rw [if_neg (by omega)] at hR
 have h1' : -1152921504606846976 ≤ last := by omega
 have h2' : last ≤ 1152921504606846976 := by omega
 have hmk := zmf (x - last)
 obtain ⟨d, hd⟩ : ∃ d, d = (x - last) % 4294967296 := ⟨_, rfl⟩
 have hd0 : 0 ≤ d := by omega
 have hd1 : d ≤ 4294967295 := by omega
 rw [← hd] at hR hmk
 rw [show (4294967296 : Int) / 2 = 2147483648 by decide] at hR
 clear h1 h2
 clear hd
 by_cases h3 : 2147483648 < d
 · rw [if_pos h3] at hR
   have HR := H9 hR
   clear hR
   go_enter Tryz.func98, Tryz.ntmps98
   go_wp2
   go_ret
   exact ⟨zgt (by have := HR.out; omega), rfl⟩
 · rw [if_neg h3] at hR
   have HR := H9 hR
   have h3' : d ≤ 2147483648 := by omega
   clear hR h3
   go_enter Tryz.func98, Tryz.ntmps98
   go_wp2
   go_ret
   exact ⟨zgt (by have := HR.out; omega), rfl⟩
theorem zaw (x0 : 0 ≤ x) (x1 : x ≤ 65535) (l0 : -9223372036854775808 ≤ last) (l1 : last ≤ 9223372036854775807) : Calls Tryz.prog 96 #[.int .i64 last, .int .u16 x] w fun e w' => e = .returned (.int .i64 (Pk.near last x 65536)) ∧ w = w' := by
 have k1 := fun W => zmg last x W x0 x1 l0 l1
 generalize Pk.near last x 65536 = R at *
 have K1 := H9 k1
 clear k1
 go_enter Tryz.func96, Tryz.ntmps96
 go_wp2_with fail
 refine (K1.out _).mono ?_
 rintro e w1 ⟨rfl, rfl⟩
 go_wp2
 go_ret
 exact ⟨rfl, rfl⟩
theorem zfp (x0 : 0 ≤ x) (x1 : x ≤ 4294967295) (l0 : -9223372036854775808 ≤ last) (l1 : last ≤ 9223372036854775807) : Calls Tryz.prog 44 #[.int .i64 last, .int .u32 x] w fun e w' => e = .returned (.int .i64 (Pk.near last x 4294967296)) ∧ w = w' := by
 have k1 := fun W => zmh last x W x0 x1 l0 l1
 generalize Pk.near last x 4294967296 = R at *
 have K1 := H9 k1
 clear k1
 go_enter Tryz.func44, Tryz.ntmps44
 go_wp2_with fail
 refine (K1.out _).mono ?_
 rintro e w1 ⟨rfl, rfl⟩
 go_wp2
 go_ret
 exact ⟨rfl, rfl⟩
end
section
variable (high jump q : Int) (w : World)
theorem zje (q0 : 0 ≤ q) (q1 : q ≤ 65535) (b0 : -9223372036854775808 ≤ high) (b1 : high ≤ 9223372036854775807) (c0 : -9223372036854775808 ≤ jump) (c1 : jump ≤ 9223372036854775807) (on : Bool) (h : high < 0) : Calls Tryz.prog 42 #[.agg #[.bool on, .int .i64 high, .int .i64 jump], .int .u16 q] w fun e w' => e = .returned (.tuple #[.agg #[.bool false, .int .i64 0, .int .i64 0], .int .i64 0, .bool false]) ∧ Bel w w' := by
 go_enter Tryz.func42, Tryz.ntmps42
 go_wp2_with fail
 exact bodyPost_ret (v := .tuple #[.agg #[.bool false, .int .i64 0, .int .i64 0], .int .i64 0, .bool false]) (zao Tryz.results42 rfl (run_loadVar_row (P := Tryz.prog) _ _ _ _ _ _ _ (Blk.new1 w _ _ _) Tryz.underlying42 rfl (by kernel_rfl)) rfl rfl) rfl ⟨rfl, Bel.push (Bel.push (Bel.refl w) _) _⟩
theorem zjf (q0 : 0 ≤ q) (q1 : q ≤ 65535) (b0 : -9223372036854775808 ≤ high) (b1 : high ≤ 9223372036854775807) (c0 : -9223372036854775808 ≤ jump) (c1 : jump ≤ 9223372036854775807) (on : Bool) (g : 0 ≤ high) (h : 281474976710656 < high) : Calls Tryz.prog 42 #[.agg #[.bool on, .int .i64 high, .int .i64 jump], .int .u16 q] w fun e w' => e = .returned (.tuple #[.agg #[.bool false, .int .i64 0, .int .i64 0], .int .i64 0, .bool false]) ∧ Bel w w' := by
 go_enter Tryz.func42, Tryz.ntmps42
 go_wp2_with fail
 exact bodyPost_ret (v := .tuple #[.agg #[.bool false, .int .i64 0, .int .i64 0], .int .i64 0, .bool false]) (zao Tryz.results42 rfl (run_loadVar_row (P := Tryz.prog) _ _ _ _ _ _ _ (Blk.new1 w _ _ _) Tryz.underlying42 rfl (by kernel_rfl)) rfl rfl) rfl ⟨rfl, Bel.push (Bel.push (Bel.refl w) _) _⟩
theorem zjg (q0 : 0 ≤ q) (q1 : q ≤ 65535) (b0 : -9223372036854775808 ≤ high) (b1 : high ≤ 9223372036854775807) (c0 : -9223372036854775808 ≤ jump) (c1 : jump ≤ 9223372036854775807) (on : Bool) (g : 0 ≤ high) (g2 : high ≤ 281474976710656) (h : jump < -1) : Calls Tryz.prog 42 #[.agg #[.bool on, .int .i64 high, .int .i64 jump], .int .u16 q] w fun e w' => e = .returned (.tuple #[.agg #[.bool false, .int .i64 0, .int .i64 0], .int .i64 0, .bool false]) ∧ Bel w w' := by
 go_enter Tryz.func42, Tryz.ntmps42
 go_wp2_with fail
 exact bodyPost_ret (v := .tuple #[.agg #[.bool false, .int .i64 0, .int .i64 0], .int .i64 0, .bool false]) (zao Tryz.results42 rfl (run_loadVar_row (P := Tryz.prog) _ _ _ _ _ _ _ (Blk.new1 w _ _ _) Tryz.underlying42 rfl (by kernel_rfl)) rfl rfl) rfl ⟨rfl, Bel.push (Bel.push (Bel.refl w) _) _⟩
theorem zjh (q0 : 0 ≤ q) (q1 : q ≤ 65535) (b0 : -9223372036854775808 ≤ high) (b1 : high ≤ 9223372036854775807) (c0 : -9223372036854775808 ≤ jump) (c1 : jump ≤ 9223372036854775807) (on : Bool) (g : 0 ≤ high) (g2 : high ≤ 281474976710656) (g3 : -1 ≤ jump) (h : 65535 < jump) : Calls Tryz.prog 42 #[.agg #[.bool on, .int .i64 high, .int .i64 jump], .int .u16 q] w fun e w' => e = .returned (.tuple #[.agg #[.bool false, .int .i64 0, .int .i64 0], .int .i64 0, .bool false]) ∧ Bel w w' := by
 go_enter Tryz.func42, Tryz.ntmps42
 go_wp2_with fail
 exact bodyPost_ret (v := .tuple #[.agg #[.bool false, .int .i64 0, .int .i64 0], .int .i64 0, .bool false]) (zao Tryz.results42 rfl (run_loadVar_row (P := Tryz.prog) _ _ _ _ _ _ _ (Blk.new1 w _ _ _) Tryz.underlying42 rfl (by kernel_rfl)) rfl rfl) rfl ⟨rfl, Bel.push (Bel.push (Bel.refl w) _) _⟩
theorem zmi (q0 : 0 ≤ q) (q1 : q ≤ 65535) (b0 : -9223372036854775808 ≤ high) (b1 : high ≤ 9223372036854775807) (c0 : -9223372036854775808 ≤ jump) (c1 : jump ≤ 9223372036854775807) (g : 0 ≤ high) (g2 : high ≤ 281474976710656) (g3 : -1 ≤ jump) (g4 : jump ≤ 65535) : Calls Tryz.prog 42 #[.agg #[.bool false, .int .i64 high, .int .i64 jump], .int .u16 q] w fun e w' => e = .returned (.tuple #[.agg #[.bool true, .int .i64 q, .int .i64 (-1)], .int .i64 q, .bool true]) ∧ Bel w w' := by
 go_enter Tryz.func42, Tryz.ntmps42
 go_wp2_with fail
 exact bodyPost_ret (v := .tuple #[.agg #[.bool true, .int .i64 q, .int .i64 (-1)], .int .i64 q, .bool true]) (zao Tryz.results42 rfl (run_loadVar_row (P := Tryz.prog) _ _ _ _ _ _ _ (Blk.new1 w _ _ _) Tryz.underlying42 rfl (by kernel_rfl)) rfl rfl) rfl ⟨rfl, Bel.push (Bel.push (Bel.refl w) _) _⟩
theorem zoj (q0 : 0 ≤ q) (q1 : q ≤ 65535) (b0 : -9223372036854775808 ≤ high) (b1 : high ≤ 9223372036854775807) (c0 : -9223372036854775808 ≤ jump) (c1 : jump ≤ 9223372036854775807) (g : 0 ≤ high) (g2 : high ≤ 281474976710656) (g3 : -1 ≤ jump) (g4 : jump ≤ 65535) (h1 : 0 ≤ Pk.near high q 65536) (h2 : Pk.near high q 65536 ≤ high + 3000) (h3 : high - 100 ≤ Pk.near high q 65536) : Calls Tryz.prog 42 #[.agg #[.bool true, .int .i64 high, .int .i64 jump], .int .u16 q] w fun e w' => e = .returned (.tuple #[.agg #[.bool true, .int .i64 (max high (Pk.near high q 65536)), .int .i64 (-1)], .int .i64 (Pk.near high q 65536), .bool true]) ∧ Bel w w' := by
 have k1 := fun W => zaw high q W q0 q1 b0 b1
 obtain ⟨n, hn⟩ : ∃ n, n = Pk.near high q 65536 := ⟨_, rfl⟩
 simp only [← hn]
 rw [← hn] at k1 h1 h2 h3
 have hnb := Pk.near_bd16 high q (by omega)
 rw [← hn] at hnb
 obtain ⟨n0, n1, _⟩ := hnb
 have n2 : n ≤ 281474976800000 := by omega
 have n3 : -40000 ≤ n := by omega
 have hv1 := zap (high + 3000) (by omega) (by omega)
 have hv2 := zap (high - 100) (by omega) (by omega)
 have K1 := H9 k1
 clear k1 n0 n1 hn
 go_enter Tryz.func42, Tryz.ntmps42
 go_wp2_with fail
 refine (K1.out _).mono ?_
 rintro e w1 ⟨rfl, rfl⟩
 go_wp2_with fail
 exact bodyPost_ret (v := .tuple #[.agg #[.bool true, .int .i64 (max high n), .int .i64 (-1)], .int .i64 n, .bool true]) (zao Tryz.results42 rfl (run_loadVar_row (P := Tryz.prog) _ _ _ _ _ _ _ (Blk.new1 w _ _ _) Tryz.underlying42 rfl (by kernel_rfl)) rfl rfl) rfl ⟨rfl, Bel.push (Bel.push (Bel.refl w) _) _⟩
theorem zgu (q0 : 0 ≤ q) (q1 : q ≤ 65535) (b0 : -9223372036854775808 ≤ high) (b1 : high ≤ 9223372036854775807) (c0 : -9223372036854775808 ≤ jump) (c1 : jump ≤ 9223372036854775807) (g : 0 ≤ high) (g2 : high ≤ 281474976710656) (g3 : -1 ≤ jump) (g4 : jump ≤ 65535) (h1 : Pk.near high q 65536 < 0) (hj : q = jump) (hh : high < 140737488355328) (hd0 : (q - high) % 65536 = 0) : Calls Tryz.prog 42 #[.agg #[.bool true, .int .i64 high, .int .i64 jump], .int .u16 q] w fun e w' => e = .returned (.tuple #[.agg #[.bool true, .int .i64 (high + 65536), .int .i64 (-1)], .int .i64 (high + 65536), .bool true]) ∧ Bel w w' := by
 have k1 := fun W => zaw high q W q0 q1 b0 b1
 obtain ⟨n, hn⟩ : ∃ n, n = Pk.near high q 65536 := ⟨_, rfl⟩
 rw [← hn] at k1 h1
 have hnb := Pk.near_bd16 high q (by omega)
 rw [← hn] at hnb
 obtain ⟨n0, n1, _⟩ := hnb
 have n2 : n ≤ 281474976800000 := by omega
 have n3 : -40000 ≤ n := by omega
 have hv1 := zap (high + 3000) (by omega) (by omega)
 have hv2 := zap (high - 100) (by omega) (by omega)
 have K1 := H9 k1
 clear k1 n0 n1 hn
 obtain ⟨d, hd⟩ : ∃ d, d = (q - high) % 65536 := ⟨_, rfl⟩
 have hmk := zbz (q - high)
 rw [← hd] at hmk
 have d0 : 0 ≤ d := by omega
 have d1 : d ≤ 65535 := by omega
 rw [← hd] at hd0
 have e0 : (d == 0) = true := by rw [beq_iff_eq]; exact hd0
 clear hd hd0
 have ej : (q == jump) = true := by rw [beq_iff_eq]; exact hj
 clear hj
 go_enter Tryz.func42, Tryz.ntmps42
 go_wp2_with fail
 refine (K1.out _).mono ?_
 rintro e w1 ⟨rfl, rfl⟩
 go_wp2_with fail
 go_region
 go_wp2_with fail
 exact bodyPost_ret (v := .tuple #[.agg #[.bool true, .int .i64 (high + 65536), .int .i64 (-1)], .int .i64 (high + 65536), .bool true]) (zao Tryz.results42 rfl (run_loadVar_row (P := Tryz.prog) _ _ _ _ _ _ _ (Blk.new1 w _ _ _).drew Tryz.underlying42 rfl (by kernel_rfl)) rfl rfl) rfl ⟨rfl, Bel.drew (Bel.push (Bel.push (Bel.refl w) _) _)⟩
theorem zgv (q0 : 0 ≤ q) (q1 : q ≤ 65535) (b0 : -9223372036854775808 ≤ high) (b1 : high ≤ 9223372036854775807) (c0 : -9223372036854775808 ≤ jump) (c1 : jump ≤ 9223372036854775807) (g : 0 ≤ high) (g2 : high ≤ 281474976710656) (g3 : -1 ≤ jump) (g4 : jump ≤ 65535) (h1 : Pk.near high q 65536 < 0) (hj : q = jump) (hh : high < 140737488355328) (hd0 : ¬(q - high) % 65536 = 0) : Calls Tryz.prog 42 #[.agg #[.bool true, .int .i64 high, .int .i64 jump], .int .u16 q] w fun e w' => e = .returned (.tuple #[.agg #[.bool true, .int .i64 (high + ((q - high) % 65536)), .int .i64 (-1)], .int .i64 (high + ((q - high) % 65536)), .bool true]) ∧ Bel w w' := by
 have k1 := fun W => zaw high q W q0 q1 b0 b1
 obtain ⟨n, hn⟩ : ∃ n, n = Pk.near high q 65536 := ⟨_, rfl⟩
 rw [← hn] at k1 h1
 have hnb := Pk.near_bd16 high q (by omega)
 rw [← hn] at hnb
 obtain ⟨n0, n1, _⟩ := hnb
 have n2 : n ≤ 281474976800000 := by omega
 have n3 : -40000 ≤ n := by omega
 have hv1 := zap (high + 3000) (by omega) (by omega)
 have hv2 := zap (high - 100) (by omega) (by omega)
 have K1 := H9 k1
 clear k1 n0 n1 hn
 obtain ⟨d, hd⟩ : ∃ d, d = (q - high) % 65536 := ⟨_, rfl⟩
 have hmk := zbz (q - high)
 rw [← hd] at hmk
 have d0 : 0 ≤ d := by omega
 have d1 : d ≤ 65535 := by omega
 simp only [← hd]
 rw [← hd] at hd0
 have e0 : (d == 0) = false := by rw [beq_eq_false_iff_ne]; exact hd0
 clear hd hd0
 have ej : (q == jump) = true := by rw [beq_iff_eq]; exact hj
 clear hj
 go_enter Tryz.func42, Tryz.ntmps42
 go_wp2_with fail
 refine (K1.out _).mono ?_
 rintro e w1 ⟨rfl, rfl⟩
 go_wp2_with fail
 go_region
 go_wp2_with fail
 exact bodyPost_ret (v := .tuple #[.agg #[.bool true, .int .i64 (high + d), .int .i64 (-1)], .int .i64 (high + d), .bool true]) (zao Tryz.results42 rfl (run_loadVar_row (P := Tryz.prog) _ _ _ _ _ _ _ (Blk.new1 w _ _ _).drew Tryz.underlying42 rfl (by kernel_rfl)) rfl rfl) rfl ⟨rfl, Bel.drew (Bel.push (Bel.push (Bel.refl w) _) _)⟩
theorem zji (q0 : 0 ≤ q) (q1 : q ≤ 65535) (b0 : -9223372036854775808 ≤ high) (b1 : high ≤ 9223372036854775807) (c0 : -9223372036854775808 ≤ jump) (c1 : jump ≤ 9223372036854775807) (g : 0 ≤ high) (g2 : high ≤ 281474976710656) (g3 : -1 ≤ jump) (g4 : jump ≤ 65535) (h1 : Pk.near high q 65536 < 0) (hj : ¬q = jump) : Calls Tryz.prog 42 #[.agg #[.bool true, .int .i64 high, .int .i64 jump], .int .u16 q] w fun e w' => e = .returned (.tuple #[.agg #[.bool true, .int .i64 high, .int .i64 ((q + 1) % 65536)], .int .i64 0, .bool false]) ∧ Bel w w' := by
 have k1 := fun W => zaw high q W q0 q1 b0 b1
 obtain ⟨n, hn⟩ : ∃ n, n = Pk.near high q 65536 := ⟨_, rfl⟩
 rw [← hn] at k1 h1
 have hnb := Pk.near_bd16 high q (by omega)
 rw [← hn] at hnb
 obtain ⟨n0, n1, _⟩ := hnb
 have n2 : n ≤ 281474976800000 := by omega
 have n3 : -40000 ≤ n := by omega
 have hv1 := zap (high + 3000) (by omega) (by omega)
 have hv2 := zap (high - 100) (by omega) (by omega)
 have K1 := H9 k1
 clear k1 n0 n1 hn
 have ej : (q == jump) = false := by rw [beq_eq_false_iff_ne]; exact hj
 clear hj
 have hw : IntKind.u16.wrap (q + 1) = (q + 1) % 65536 := zdb _
 go_enter Tryz.func42, Tryz.ntmps42
 go_wp2_with fail
 refine (K1.out _).mono ?_
 rintro e w1 ⟨rfl, rfl⟩
 go_wp2_with fail
 exact bodyPost_ret (v := .tuple #[.agg #[.bool true, .int .i64 high, .int .i64 ((q + 1) % 65536)], .int .i64 0, .bool false]) (zao Tryz.results42 rfl (run_loadVar_row (P := Tryz.prog) _ _ _ _ _ _ _ (Blk.new1 w _ _ _) Tryz.underlying42 rfl (by kernel_rfl)) rfl rfl) rfl ⟨rfl, Bel.push (Bel.push (Bel.refl w) _) _⟩
theorem zjj (q0 : 0 ≤ q) (q1 : q ≤ 65535) (b0 : -9223372036854775808 ≤ high) (b1 : high ≤ 9223372036854775807) (c0 : -9223372036854775808 ≤ jump) (c1 : jump ≤ 9223372036854775807) (g : 0 ≤ high) (g2 : high ≤ 281474976710656) (g3 : -1 ≤ jump) (g4 : jump ≤ 65535) (h1 : Pk.near high q 65536 < 0) (hj : q = jump) (hh : 140737488355328 ≤ high) : Calls Tryz.prog 42 #[.agg #[.bool true, .int .i64 high, .int .i64 jump], .int .u16 q] w fun e w' => e = .returned (.tuple #[.agg #[.bool true, .int .i64 high, .int .i64 ((q + 1) % 65536)], .int .i64 0, .bool false]) ∧ Bel w w' := by
 have k1 := fun W => zaw high q W q0 q1 b0 b1
 obtain ⟨n, hn⟩ : ∃ n, n = Pk.near high q 65536 := ⟨_, rfl⟩
 rw [← hn] at k1 h1
 have hnb := Pk.near_bd16 high q (by omega)
 rw [← hn] at hnb
 obtain ⟨n0, n1, _⟩ := hnb
 have n2 : n ≤ 281474976800000 := by omega
 have n3 : -40000 ≤ n := by omega
 have hv1 := zap (high + 3000) (by omega) (by omega)
 have hv2 := zap (high - 100) (by omega) (by omega)
 have K1 := H9 k1
 clear k1 n0 n1 hn
 have ej : (q == jump) = true := by rw [beq_iff_eq]; exact hj
 clear hj
 have hw : IntKind.u16.wrap (q + 1) = (q + 1) % 65536 := zdb _
 go_enter Tryz.func42, Tryz.ntmps42
 go_wp2_with fail
 refine (K1.out _).mono ?_
 rintro e w1 ⟨rfl, rfl⟩
 go_wp2_with fail
 exact bodyPost_ret (v := .tuple #[.agg #[.bool true, .int .i64 high, .int .i64 ((q + 1) % 65536)], .int .i64 0, .bool false]) (zao Tryz.results42 rfl (run_loadVar_row (P := Tryz.prog) _ _ _ _ _ _ _ (Blk.new1 w _ _ _) Tryz.underlying42 rfl (by kernel_rfl)) rfl rfl) rfl ⟨rfl, Bel.push (Bel.push (Bel.refl w) _) _⟩
theorem zgw (q0 : 0 ≤ q) (q1 : q ≤ 65535) (b0 : -9223372036854775808 ≤ high) (b1 : high ≤ 9223372036854775807) (c0 : -9223372036854775808 ≤ jump) (c1 : jump ≤ 9223372036854775807) (g : 0 ≤ high) (g2 : high ≤ 281474976710656) (g3 : -1 ≤ jump) (g4 : jump ≤ 65535) (h1 : 0 ≤ Pk.near high q 65536) (h2 : high + 3000 < Pk.near high q 65536) (hj : q = jump) (hh : high < 140737488355328) (hd0 : (q - high) % 65536 = 0) : Calls Tryz.prog 42 #[.agg #[.bool true, .int .i64 high, .int .i64 jump], .int .u16 q] w fun e w' => e = .returned (.tuple #[.agg #[.bool true, .int .i64 (high + 65536), .int .i64 (-1)], .int .i64 (high + 65536), .bool true]) ∧ Bel w w' := by
 have k1 := fun W => zaw high q W q0 q1 b0 b1
 obtain ⟨n, hn⟩ : ∃ n, n = Pk.near high q 65536 := ⟨_, rfl⟩
 rw [← hn] at k1 h1 h2
 have hnb := Pk.near_bd16 high q (by omega)
 rw [← hn] at hnb
 obtain ⟨n0, n1, _⟩ := hnb
 have n2 : n ≤ 281474976800000 := by omega
 have n3 : -40000 ≤ n := by omega
 have hv1 := zap (high + 3000) (by omega) (by omega)
 have hv2 := zap (high - 100) (by omega) (by omega)
 have K1 := H9 k1
 clear k1 n0 n1 hn
 obtain ⟨d, hd⟩ : ∃ d, d = (q - high) % 65536 := ⟨_, rfl⟩
 have hmk := zbz (q - high)
 rw [← hd] at hmk
 have d0 : 0 ≤ d := by omega
 have d1 : d ≤ 65535 := by omega
 rw [← hd] at hd0
 have e0 : (d == 0) = true := by rw [beq_iff_eq]; exact hd0
 clear hd hd0
 have ej : (q == jump) = true := by rw [beq_iff_eq]; exact hj
 clear hj
 go_enter Tryz.func42, Tryz.ntmps42
 go_wp2_with fail
 refine (K1.out _).mono ?_
 rintro e w1 ⟨rfl, rfl⟩
 go_wp2_with fail
 go_region
 go_wp2_with fail
 exact bodyPost_ret (v := .tuple #[.agg #[.bool true, .int .i64 (high + 65536), .int .i64 (-1)], .int .i64 (high + 65536), .bool true]) (zao Tryz.results42 rfl (run_loadVar_row (P := Tryz.prog) _ _ _ _ _ _ _ (Blk.new1 w _ _ _).drew Tryz.underlying42 rfl (by kernel_rfl)) rfl rfl) rfl ⟨rfl, Bel.drew (Bel.push (Bel.push (Bel.refl w) _) _)⟩
theorem zgx (q0 : 0 ≤ q) (q1 : q ≤ 65535) (b0 : -9223372036854775808 ≤ high) (b1 : high ≤ 9223372036854775807) (c0 : -9223372036854775808 ≤ jump) (c1 : jump ≤ 9223372036854775807) (g : 0 ≤ high) (g2 : high ≤ 281474976710656) (g3 : -1 ≤ jump) (g4 : jump ≤ 65535) (h1 : 0 ≤ Pk.near high q 65536) (h2 : high + 3000 < Pk.near high q 65536) (hj : q = jump) (hh : high < 140737488355328) (hd0 : ¬(q - high) % 65536 = 0) : Calls Tryz.prog 42 #[.agg #[.bool true, .int .i64 high, .int .i64 jump], .int .u16 q] w fun e w' => e = .returned (.tuple #[.agg #[.bool true, .int .i64 (high + ((q - high) % 65536)), .int .i64 (-1)], .int .i64 (high + ((q - high) % 65536)), .bool true]) ∧ Bel w w' := by
 have k1 := fun W => zaw high q W q0 q1 b0 b1
 obtain ⟨n, hn⟩ : ∃ n, n = Pk.near high q 65536 := ⟨_, rfl⟩
 rw [← hn] at k1 h1 h2
 have hnb := Pk.near_bd16 high q (by omega)
 rw [← hn] at hnb
 obtain ⟨n0, n1, _⟩ := hnb
 have n2 : n ≤ 281474976800000 := by omega
 have n3 : -40000 ≤ n := by omega
 have hv1 := zap (high + 3000) (by omega) (by omega)
 have hv2 := zap (high - 100) (by omega) (by omega)
 have K1 := H9 k1
 clear k1 n0 n1 hn
 obtain ⟨d, hd⟩ : ∃ d, d = (q - high) % 65536 := ⟨_, rfl⟩
 have hmk := zbz (q - high)
 rw [← hd] at hmk
 have d0 : 0 ≤ d := by omega
 have d1 : d ≤ 65535 := by omega
 simp only [← hd]
 rw [← hd] at hd0
 have e0 : (d == 0) = false := by rw [beq_eq_false_iff_ne]; exact hd0
 clear hd hd0
 have ej : (q == jump) = true := by rw [beq_iff_eq]; exact hj
 clear hj
 go_enter Tryz.func42, Tryz.ntmps42
 go_wp2_with fail
 refine (K1.out _).mono ?_
 rintro e w1 ⟨rfl, rfl⟩
 go_wp2_with fail
 go_region
 go_wp2_with fail
 exact bodyPost_ret (v := .tuple #[.agg #[.bool true, .int .i64 (high + d), .int .i64 (-1)], .int .i64 (high + d), .bool true]) (zao Tryz.results42 rfl (run_loadVar_row (P := Tryz.prog) _ _ _ _ _ _ _ (Blk.new1 w _ _ _).drew Tryz.underlying42 rfl (by kernel_rfl)) rfl rfl) rfl ⟨rfl, Bel.drew (Bel.push (Bel.push (Bel.refl w) _) _)⟩
theorem zjk (q0 : 0 ≤ q) (q1 : q ≤ 65535) (b0 : -9223372036854775808 ≤ high) (b1 : high ≤ 9223372036854775807) (c0 : -9223372036854775808 ≤ jump) (c1 : jump ≤ 9223372036854775807) (g : 0 ≤ high) (g2 : high ≤ 281474976710656) (g3 : -1 ≤ jump) (g4 : jump ≤ 65535) (h1 : 0 ≤ Pk.near high q 65536) (h2 : high + 3000 < Pk.near high q 65536) (hj : ¬q = jump) : Calls Tryz.prog 42 #[.agg #[.bool true, .int .i64 high, .int .i64 jump], .int .u16 q] w fun e w' => e = .returned (.tuple #[.agg #[.bool true, .int .i64 high, .int .i64 ((q + 1) % 65536)], .int .i64 0, .bool false]) ∧ Bel w w' := by
 have k1 := fun W => zaw high q W q0 q1 b0 b1
 obtain ⟨n, hn⟩ : ∃ n, n = Pk.near high q 65536 := ⟨_, rfl⟩
 rw [← hn] at k1 h1 h2
 have hnb := Pk.near_bd16 high q (by omega)
 rw [← hn] at hnb
 obtain ⟨n0, n1, _⟩ := hnb
 have n2 : n ≤ 281474976800000 := by omega
 have n3 : -40000 ≤ n := by omega
 have hv1 := zap (high + 3000) (by omega) (by omega)
 have hv2 := zap (high - 100) (by omega) (by omega)
 have K1 := H9 k1
 clear k1 n0 n1 hn
 have ej : (q == jump) = false := by rw [beq_eq_false_iff_ne]; exact hj
 clear hj
 have hw : IntKind.u16.wrap (q + 1) = (q + 1) % 65536 := zdb _
 go_enter Tryz.func42, Tryz.ntmps42
 go_wp2_with fail
 refine (K1.out _).mono ?_
 rintro e w1 ⟨rfl, rfl⟩
 go_wp2_with fail
 exact bodyPost_ret (v := .tuple #[.agg #[.bool true, .int .i64 high, .int .i64 ((q + 1) % 65536)], .int .i64 0, .bool false]) (zao Tryz.results42 rfl (run_loadVar_row (P := Tryz.prog) _ _ _ _ _ _ _ (Blk.new1 w _ _ _) Tryz.underlying42 rfl (by kernel_rfl)) rfl rfl) rfl ⟨rfl, Bel.push (Bel.push (Bel.refl w) _) _⟩
theorem zjl (q0 : 0 ≤ q) (q1 : q ≤ 65535) (b0 : -9223372036854775808 ≤ high) (b1 : high ≤ 9223372036854775807) (c0 : -9223372036854775808 ≤ jump) (c1 : jump ≤ 9223372036854775807) (g : 0 ≤ high) (g2 : high ≤ 281474976710656) (g3 : -1 ≤ jump) (g4 : jump ≤ 65535) (h1 : 0 ≤ Pk.near high q 65536) (h2 : high + 3000 < Pk.near high q 65536) (hj : q = jump) (hh : 140737488355328 ≤ high) : Calls Tryz.prog 42 #[.agg #[.bool true, .int .i64 high, .int .i64 jump], .int .u16 q] w fun e w' => e = .returned (.tuple #[.agg #[.bool true, .int .i64 high, .int .i64 ((q + 1) % 65536)], .int .i64 0, .bool false]) ∧ Bel w w' := by
 have k1 := fun W => zaw high q W q0 q1 b0 b1
 obtain ⟨n, hn⟩ : ∃ n, n = Pk.near high q 65536 := ⟨_, rfl⟩
 rw [← hn] at k1 h1 h2
 have hnb := Pk.near_bd16 high q (by omega)
 rw [← hn] at hnb
 obtain ⟨n0, n1, _⟩ := hnb
 have n2 : n ≤ 281474976800000 := by omega
 have n3 : -40000 ≤ n := by omega
 have hv1 := zap (high + 3000) (by omega) (by omega)
 have hv2 := zap (high - 100) (by omega) (by omega)
 have K1 := H9 k1
 clear k1 n0 n1 hn
 have ej : (q == jump) = true := by rw [beq_iff_eq]; exact hj
 clear hj
 have hw : IntKind.u16.wrap (q + 1) = (q + 1) % 65536 := zdb _
 go_enter Tryz.func42, Tryz.ntmps42
 go_wp2_with fail
 refine (K1.out _).mono ?_
 rintro e w1 ⟨rfl, rfl⟩
 go_wp2_with fail
 exact bodyPost_ret (v := .tuple #[.agg #[.bool true, .int .i64 high, .int .i64 ((q + 1) % 65536)], .int .i64 0, .bool false]) (zao Tryz.results42 rfl (run_loadVar_row (P := Tryz.prog) _ _ _ _ _ _ _ (Blk.new1 w _ _ _) Tryz.underlying42 rfl (by kernel_rfl)) rfl rfl) rfl ⟨rfl, Bel.push (Bel.push (Bel.refl w) _) _⟩
theorem zgy (q0 : 0 ≤ q) (q1 : q ≤ 65535) (b0 : -9223372036854775808 ≤ high) (b1 : high ≤ 9223372036854775807) (c0 : -9223372036854775808 ≤ jump) (c1 : jump ≤ 9223372036854775807) (g : 0 ≤ high) (g2 : high ≤ 281474976710656) (g3 : -1 ≤ jump) (g4 : jump ≤ 65535) (h1 : 0 ≤ Pk.near high q 65536) (h2 : Pk.near high q 65536 ≤ high + 3000) (h3 : Pk.near high q 65536 < high - 100) (hj : q = jump) (hh : high < 140737488355328) (hd0 : (q - high) % 65536 = 0) : Calls Tryz.prog 42 #[.agg #[.bool true, .int .i64 high, .int .i64 jump], .int .u16 q] w fun e w' => e = .returned (.tuple #[.agg #[.bool true, .int .i64 (high + 65536), .int .i64 (-1)], .int .i64 (high + 65536), .bool true]) ∧ Bel w w' := by
 have k1 := fun W => zaw high q W q0 q1 b0 b1
 obtain ⟨n, hn⟩ : ∃ n, n = Pk.near high q 65536 := ⟨_, rfl⟩
 rw [← hn] at k1 h1 h2 h3
 have hnb := Pk.near_bd16 high q (by omega)
 rw [← hn] at hnb
 obtain ⟨n0, n1, _⟩ := hnb
 have n2 : n ≤ 281474976800000 := by omega
 have n3 : -40000 ≤ n := by omega
 have hv1 := zap (high + 3000) (by omega) (by omega)
 have hv2 := zap (high - 100) (by omega) (by omega)
 have K1 := H9 k1
 clear k1 n0 n1 hn
 obtain ⟨d, hd⟩ : ∃ d, d = (q - high) % 65536 := ⟨_, rfl⟩
 have hmk := zbz (q - high)
 rw [← hd] at hmk
 have d0 : 0 ≤ d := by omega
 have d1 : d ≤ 65535 := by omega
 rw [← hd] at hd0
 have e0 : (d == 0) = true := by rw [beq_iff_eq]; exact hd0
 clear hd hd0
 have ej : (q == jump) = true := by rw [beq_iff_eq]; exact hj
 clear hj
 go_enter Tryz.func42, Tryz.ntmps42
 go_wp2_with fail
 refine (K1.out _).mono ?_
 rintro e w1 ⟨rfl, rfl⟩
 go_wp2_with fail
 go_region
 go_wp2_with fail
 exact bodyPost_ret (v := .tuple #[.agg #[.bool true, .int .i64 (high + 65536), .int .i64 (-1)], .int .i64 (high + 65536), .bool true]) (zao Tryz.results42 rfl (run_loadVar_row (P := Tryz.prog) _ _ _ _ _ _ _ (Blk.new1 w _ _ _).drew Tryz.underlying42 rfl (by kernel_rfl)) rfl rfl) rfl ⟨rfl, Bel.drew (Bel.push (Bel.push (Bel.refl w) _) _)⟩
theorem zgz (q0 : 0 ≤ q) (q1 : q ≤ 65535) (b0 : -9223372036854775808 ≤ high) (b1 : high ≤ 9223372036854775807) (c0 : -9223372036854775808 ≤ jump) (c1 : jump ≤ 9223372036854775807) (g : 0 ≤ high) (g2 : high ≤ 281474976710656) (g3 : -1 ≤ jump) (g4 : jump ≤ 65535) (h1 : 0 ≤ Pk.near high q 65536) (h2 : Pk.near high q 65536 ≤ high + 3000) (h3 : Pk.near high q 65536 < high - 100) (hj : q = jump) (hh : high < 140737488355328) (hd0 : ¬(q - high) % 65536 = 0) : Calls Tryz.prog 42 #[.agg #[.bool true, .int .i64 high, .int .i64 jump], .int .u16 q] w fun e w' => e = .returned (.tuple #[.agg #[.bool true, .int .i64 (high + ((q - high) % 65536)), .int .i64 (-1)], .int .i64 (high + ((q - high) % 65536)), .bool true]) ∧ Bel w w' := by
 have k1 := fun W => zaw high q W q0 q1 b0 b1
 obtain ⟨n, hn⟩ : ∃ n, n = Pk.near high q 65536 := ⟨_, rfl⟩
 rw [← hn] at k1 h1 h2 h3
 have hnb := Pk.near_bd16 high q (by omega)
 rw [← hn] at hnb
 obtain ⟨n0, n1, _⟩ := hnb
 have n2 : n ≤ 281474976800000 := by omega
 have n3 : -40000 ≤ n := by omega
 have hv1 := zap (high + 3000) (by omega) (by omega)
 have hv2 := zap (high - 100) (by omega) (by omega)
 have K1 := H9 k1
 clear k1 n0 n1 hn
 obtain ⟨d, hd⟩ : ∃ d, d = (q - high) % 65536 := ⟨_, rfl⟩
 have hmk := zbz (q - high)
 rw [← hd] at hmk
 have d0 : 0 ≤ d := by omega
 have d1 : d ≤ 65535 := by omega
 simp only [← hd]
 rw [← hd] at hd0
 have e0 : (d == 0) = false := by rw [beq_eq_false_iff_ne]; exact hd0
 clear hd hd0
 have ej : (q == jump) = true := by rw [beq_iff_eq]; exact hj
 clear hj
 go_enter Tryz.func42, Tryz.ntmps42
 go_wp2_with fail
 refine (K1.out _).mono ?_
 rintro e w1 ⟨rfl, rfl⟩
 go_wp2_with fail
 go_region
 go_wp2_with fail
 exact bodyPost_ret (v := .tuple #[.agg #[.bool true, .int .i64 (high + d), .int .i64 (-1)], .int .i64 (high + d), .bool true]) (zao Tryz.results42 rfl (run_loadVar_row (P := Tryz.prog) _ _ _ _ _ _ _ (Blk.new1 w _ _ _).drew Tryz.underlying42 rfl (by kernel_rfl)) rfl rfl) rfl ⟨rfl, Bel.drew (Bel.push (Bel.push (Bel.refl w) _) _)⟩
theorem zjm (q0 : 0 ≤ q) (q1 : q ≤ 65535) (b0 : -9223372036854775808 ≤ high) (b1 : high ≤ 9223372036854775807) (c0 : -9223372036854775808 ≤ jump) (c1 : jump ≤ 9223372036854775807) (g : 0 ≤ high) (g2 : high ≤ 281474976710656) (g3 : -1 ≤ jump) (g4 : jump ≤ 65535) (h1 : 0 ≤ Pk.near high q 65536) (h2 : Pk.near high q 65536 ≤ high + 3000) (h3 : Pk.near high q 65536 < high - 100) (hj : ¬q = jump) : Calls Tryz.prog 42 #[.agg #[.bool true, .int .i64 high, .int .i64 jump], .int .u16 q] w fun e w' => e = .returned (.tuple #[.agg #[.bool true, .int .i64 high, .int .i64 ((q + 1) % 65536)], .int .i64 0, .bool false]) ∧ Bel w w' := by
 have k1 := fun W => zaw high q W q0 q1 b0 b1
 obtain ⟨n, hn⟩ : ∃ n, n = Pk.near high q 65536 := ⟨_, rfl⟩
 rw [← hn] at k1 h1 h2 h3
 have hnb := Pk.near_bd16 high q (by omega)
 rw [← hn] at hnb
 obtain ⟨n0, n1, _⟩ := hnb
 have n2 : n ≤ 281474976800000 := by omega
 have n3 : -40000 ≤ n := by omega
 have hv1 := zap (high + 3000) (by omega) (by omega)
 have hv2 := zap (high - 100) (by omega) (by omega)
 have K1 := H9 k1
 clear k1 n0 n1 hn
 have ej : (q == jump) = false := by rw [beq_eq_false_iff_ne]; exact hj
 clear hj
 have hw : IntKind.u16.wrap (q + 1) = (q + 1) % 65536 := zdb _
 go_enter Tryz.func42, Tryz.ntmps42
 go_wp2_with fail
 refine (K1.out _).mono ?_
 rintro e w1 ⟨rfl, rfl⟩
 go_wp2_with fail
 exact bodyPost_ret (v := .tuple #[.agg #[.bool true, .int .i64 high, .int .i64 ((q + 1) % 65536)], .int .i64 0, .bool false]) (zao Tryz.results42 rfl (run_loadVar_row (P := Tryz.prog) _ _ _ _ _ _ _ (Blk.new1 w _ _ _) Tryz.underlying42 rfl (by kernel_rfl)) rfl rfl) rfl ⟨rfl, Bel.push (Bel.push (Bel.refl w) _) _⟩
theorem zjn (q0 : 0 ≤ q) (q1 : q ≤ 65535) (b0 : -9223372036854775808 ≤ high) (b1 : high ≤ 9223372036854775807) (c0 : -9223372036854775808 ≤ jump) (c1 : jump ≤ 9223372036854775807) (g : 0 ≤ high) (g2 : high ≤ 281474976710656) (g3 : -1 ≤ jump) (g4 : jump ≤ 65535) (h1 : 0 ≤ Pk.near high q 65536) (h2 : Pk.near high q 65536 ≤ high + 3000) (h3 : Pk.near high q 65536 < high - 100) (hj : q = jump) (hh : 140737488355328 ≤ high) : Calls Tryz.prog 42 #[.agg #[.bool true, .int .i64 high, .int .i64 jump], .int .u16 q] w fun e w' => e = .returned (.tuple #[.agg #[.bool true, .int .i64 high, .int .i64 ((q + 1) % 65536)], .int .i64 0, .bool false]) ∧ Bel w w' := by
 have k1 := fun W => zaw high q W q0 q1 b0 b1
 obtain ⟨n, hn⟩ : ∃ n, n = Pk.near high q 65536 := ⟨_, rfl⟩
 rw [← hn] at k1 h1 h2 h3
 have hnb := Pk.near_bd16 high q (by omega)
 rw [← hn] at hnb
 obtain ⟨n0, n1, _⟩ := hnb
 have n2 : n ≤ 281474976800000 := by omega
 have n3 : -40000 ≤ n := by omega
 have hv1 := zap (high + 3000) (by omega) (by omega)
 have hv2 := zap (high - 100) (by omega) (by omega)
 have K1 := H9 k1
 clear k1 n0 n1 hn
 have ej : (q == jump) = true := by rw [beq_iff_eq]; exact hj
 clear hj
 have hw : IntKind.u16.wrap (q + 1) = (q + 1) % 65536 := zdb _
 go_enter Tryz.func42, Tryz.ntmps42
 go_wp2_with fail
 refine (K1.out _).mono ?_
 rintro e w1 ⟨rfl, rfl⟩
 go_wp2_with fail
 exact bodyPost_ret (v := .tuple #[.agg #[.bool true, .int .i64 high, .int .i64 ((q + 1) % 65536)], .int .i64 0, .bool false]) (zao Tryz.results42 rfl (run_loadVar_row (P := Tryz.prog) _ _ _ _ _ _ _ (Blk.new1 w _ _ _) Tryz.underlying42 rfl (by kernel_rfl)) rfl rfl) rfl ⟨rfl, Bel.push (Bel.push (Bel.refl w) _) _⟩
end
section
variable (high jump q : Int) (w : World)
theorem zjo (on : Bool) (h : high < 0) : Calls Tryz.prog 70 #[.agg #[.bool on, .int .i64 high, .int .i64 jump]] w fun e w' => e = .returned (.bool false) ∧ Below w.heap.size w w' := by
 go_enter Tryz.func70, Tryz.ntmps70
 go_wp2_with fail
 go_ret
 exact ⟨by first | rfl | simp [g, g2, g3, g4] | simp [*], Bel.push (Bel.refl w) _⟩
theorem zjp (on : Bool) (g : 0 ≤ high) (h : 281474976710656 < high) : Calls Tryz.prog 70 #[.agg #[.bool on, .int .i64 high, .int .i64 jump]] w fun e w' => e = .returned (.bool false) ∧ Below w.heap.size w w' := by
 go_enter Tryz.func70, Tryz.ntmps70
 go_wp2_with fail
 go_ret
 exact ⟨by first | rfl | simp [g, g2, g3, g4] | simp [*], Bel.push (Bel.refl w) _⟩
theorem zjq (on : Bool) (g : 0 ≤ high) (g2 : high ≤ 281474976710656) (h : jump < -1) : Calls Tryz.prog 70 #[.agg #[.bool on, .int .i64 high, .int .i64 jump]] w fun e w' => e = .returned (.bool false) ∧ Below w.heap.size w w' := by
 go_enter Tryz.func70, Tryz.ntmps70
 go_wp2_with fail
 go_ret
 exact ⟨by first | rfl | simp [g, g2, g3, g4] | simp [*], Bel.push (Bel.refl w) _⟩
theorem zjr (on : Bool) (g : 0 ≤ high) (g2 : high ≤ 281474976710656) (g3 : -1 ≤ jump) (h : 65535 < jump) : Calls Tryz.prog 70 #[.agg #[.bool on, .int .i64 high, .int .i64 jump]] w fun e w' => e = .returned (.bool false) ∧ Below w.heap.size w w' := by
 go_enter Tryz.func70, Tryz.ntmps70
 go_wp2_with fail
 go_ret
 exact ⟨by first | rfl | simp [g, g2, g3, g4] | simp [*], Bel.push (Bel.refl w) _⟩
theorem zok (on : Bool) (g : 0 ≤ high) (g2 : high ≤ 281474976710656) (g3 : -1 ≤ jump) (g4 : jump ≤ 65535) : Calls Tryz.prog 70 #[.agg #[.bool on, .int .i64 high, .int .i64 jump]] w fun e w' => e = .returned (.bool true) ∧ Below w.heap.size w w' := by
 go_enter Tryz.func70, Tryz.ntmps70
 go_wp2_with fail
 go_ret
 exact ⟨by first | rfl | simp [g, g2, g3, g4] | simp [*], Bel.push (Bel.refl w) _⟩
theorem zol (on : Bool) (h : ¬(0 ≤ high ∧ high ≤ 281474976710656 ∧ -1 ≤ jump ∧ jump ≤ 65535)) : Calls Tryz.prog 70 #[.agg #[.bool on, .int .i64 high, .int .i64 jump]] w fun e w' => e = .returned (.bool false) ∧ Below w.heap.size w w' := by
 by_cases h1 : high < 0
 · exact zjo high jump w on h1
 by_cases h2 : 281474976710656 < high
 · exact zjp high jump w on (by omega) h2
 by_cases h3 : jump < -1
 · exact zjq high jump w on (by omega) (by omega) h3
 · exact zjr high jump w on (by omega) (by omega) (by omega) (by omega)
end
end Go.Proofs.YtahbecinkciahaaGreat

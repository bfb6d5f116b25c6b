/- Layer 32: Send, a tone. -/
import Derived.Test.YtahbecinkciahaaGreatSs9S
import Derived.Test.YtahbecinkciahaaGreatSbRecvS
import Derived.Test.YtahbecinkciahaaGreatJtPlaysPS
import Derived.Test.YtahbecinkciahaaGreatSbDecsS
import Derived.Test.YtahbecinkciahaaGreatSbSr8S
import Derived.Test.YtahbecinkciahaaGreatJtCopyS
import Derived.BigRegion
import Derived.Deep.QuietTactic
import Derived.BigQuiet
import Derived.Deep.LoopGhost
import Derived.Test.YtahbecinkciahaaGreatJtPutG1S
set_option linter.unusedVariables false
set_option linter.unusedSimpArgs false
set_option maxRecDepth 100000
set_option maxHeartbeats 12800000
namespace Go.Proofs.YtahbecinkciahaaGreat
attribute [local go_sem ↓] zac zad
attribute [local go_sem] zab zag
open Go.RowKit
theorem zkb : (Tryz.prog.info? 108).map (·.size) = some 4 := by kernel_rfl
theorem zri {w W : World} {p : Sb.Pt} {A : Option Addr} {l : List TW} {n c : Nat} {gl gq : Nat} {ZA : Option Addr} {zs : List Int} {zc : Nat} {A0 : Option Addr} {l0 : List TW} {n0 c0 : Nat} (C : SC w p A0 l0 n0 c0 ZA zs zc) (S : SS w W gl p A n c l none 0 0) (BQ : Blk W gq 33 #[.int .i64 (Ev.quiet p.below zs)]) (hgq : gl < gq) (hto : p.tn.on = true ∨ p.tn.ends ≠ 0) (a : Act) (ha : FrS w.heap.size gl gq ZA zc (Ev.quiet p.below zs == 10) a) : firstWp Tryz.prog sdB_code (bodyPost Tryz.prog Tryz.f23 (SendR ({ (Sb.emit { p with tn := (Ev.next p.tn 160).s } 101 (Ev.next p.tn 160).o.time (Ev.next p.tn 160).o.marker (Ev.encT (Ev.next p.tn 160).o.tone.code (Ev.next p.tn 160).o.tone.fin (Ev.next p.tn 160).o.tone.vol (Ev.next p.tn 160).o.tone.dur).1).1 with below := 0, mrk := true, time := (p.time + 160) % 4294967296 }, [(Sb.emit { p with tn := (Ev.next p.tn 160).s } 101 (Ev.next p.tn 160).o.time (Ev.next p.tn 160).o.marker (Ev.encT (Ev.next p.tn 160).o.tone.code (Ev.next p.tn 160).o.tone.fin (Ev.next p.tn 160).o.tone.vol (Ev.next p.tn 160).o.tone.dur).1).2]) w)) a W := by
 obtain ⟨s, rfl, e1, e2, e4, e7, e8, e9, e10, _⟩ := ha
 rw [r139, e1, e2, e4, e7, e8, e9, e10]
 clear e1 e2 e4 e7 e8 e9 e10
 have hvt : p.tn.valid = true := by
  have hv := C.v
  unfold Sb.Pt.valid at hv
  simp only [Bool.and_eq_true] at hv
  exact hv.1.2
 obtain ⟨x1, x2, x3, x4⟩ := Sb.next_some p.tn hvt hto C.wf.tvol.1
 have k1 : ∀ W : World, Calls Tryz.prog 73 #[.agg #[.bool p.tn.on, .int .u8 p.tn.code, .int .u8 p.tn.vol, .int .u32 p.tn.start, .int .i64 p.tn.len, .int .i64 p.tn.ends], .int .i64 160] W fun e w' => e = .returned (.tuple #[.agg (Ev.next p.tn 160).s.row, .agg #[.int .u32 (Ev.next p.tn 160).o.time, .bool (Ev.next p.tn 160).o.marker, .int .u8 (Ev.next p.tn 160).o.tone.code, .bool (Ev.next p.tn 160).o.tone.fin, .int .u8 (Ev.next p.tn 160).o.tone.vol, .int .u16 (Ev.next p.tn 160).o.tone.dur], .bool (Ev.next p.tn 160).some, .int .u8 (Ev.next p.tn 160).err]) ∧ Below W.heap.size W w' := fun W => zpy p.tn.on p.tn.code p.tn.vol p.tn.start p.tn.len p.tn.ends 160 W
 rw [x1, x2] at k1
 have HTC := H9 (Sb.next_wf p.tn 160 C.wf.tvol C.wf.tcode C.wf.tst)
 generalize Ev.next p.tn 160 = NX at *
 obtain ⟨T, ⟨ot, om, ⟨oc, of_, ov, od⟩⟩, os_, oe⟩ := NX
 simp only at k1 x3 x4 HTC ⊢
 unfold Ev.Snd.row at k1
 replace k1 := H9 k1
 have k2 := H9 fun W => zfn oc of_ ov od W x3.1 x3.2 x4.1 x4.2
 have hpl : (Ev.encT oc of_ ov od).1.length = 4 := by unfold Ev.encT; rw [if_neg (by omega)]; rfl
 generalize (Ev.encT oc of_ ov od).1 = bs at *
 have HW5 := H9 (show ({ p with tn := T } : Sb.Pt).wf from ⟨C.wf.codec, C.wf.src, C.wf.seq, C.wf.time, C.wf.below, HTC.out.1, HTC.out.2.1, HTC.out.2.2, C.wf.seed, C.wf.pk, C.wf.oc⟩)
 obtain ⟨q9, hq9⟩ : ∃ q, q = (Sb.emit { p with tn := T } 101 ot om bs).1 := ⟨_, rfl⟩
 obtain ⟨k9, hk9⟩ : ∃ k, k = (Sb.emit { p with tn := T } 101 ot om bs).2 := ⟨_, rfl⟩
 rw [← hq9, ← hk9]
 have HQ9 := H9 hq9
 have HK9 := H9 hk9
 have H9T := H9 (show q9.time = p.time by rw [hq9]; rfl)
 have H9P := H9 (show k9.pl = bs by rw [hk9]; rfl)
 have k6 := fun (A8 : Option Addr) (V : World) hM hL => zgd [gl, w.heap.size + 1, w.heap.size] w.heap.size gl { p with tn := T } HW5.out A n c l 101 ot om A8 bs 4 V hM (by simp) (by simp) (by have := S.lt; omega) hL (by omega)
 unfold EmitR at k6
 rw [hpl] at k6
 replace k6 := H9 k6
 clear hq9 hk9 x1 x2 x3 x4 hvt BQ hpl
 refine zgr ?_
 intro _ _
 have hgg := S.lt
 have x8 := S.cell 8 _ rfl
 have x13 := S.cell 13 _ rfl
 have hto2 : p.tn.on = true ∨ (p.tn.on = false ∧ ¬p.tn.ends = 0) := by
  cases ho : p.tn.on
  · exact .inr ⟨rfl, by rcases hto with h | h; rw [ho] at h; cases h; exact h⟩
  · exact .inl rfl
 clear hto
 have hglg : gl < W.heap.size := S.bl.lt
 have hWs := S.u.size
 rcases hto2 with h8 | ⟨h8, h13⟩
 all_goals
  rw [h8] at x8
  clear h8
 all_goals go_upto_region 15 with fail
 all_goals
  clear x8
  have x8 := S.cell 8 _ rfl
  go_wp2_with (first | (refine zae rfl 35 (.tmp 83) rfl (w.heap.size) 8 rfl 48 (PL p A n c) S.m.box 6 _ Tryz.underlying35 zax (show 8 + 6 ≤ 48 by decide) (#[.bool p.tn.on, .int .u8 p.tn.code, .int .u8 p.tn.vol, .int .u32 p.tn.start, .int .i64 p.tn.len, .int .i64 p.tn.ends]) (by rfl) rfl ?_) | fail)
  refine (k1.out _).mono ?_
  rintro e w4 ⟨rfl, hb1⟩
  replace S := S.later hb1
  clear hb1 x8 x13
  have hg3w : w.heap.size ≤ w4.heap.size := S.u.size
  have BT := H9 ((Blk.new w4 35 #[.bool T.on, .int .u8 T.code, .int .u8 T.vol, .int .u32 T.start, .int .i64 T.len, .int .i64 T.ends]).push (.cells #[.int .u32 ot, .bool om, .int .u8 oc, .bool of_, .int .u8 ov, .int .u16 od] 143))
  have BO := H9 (Blk.new1 w4 (.cells #[.bool T.on, .int .u8 T.code, .int .u8 T.vol, .int .u32 T.start, .int .i64 T.len, .int .i64 T.ends] 35) 143 #[.int .u32 ot, .bool om, .int .u8 oc, .bool of_, .int .u8 ov, .int .u16 od])
  replace S := (S.push (.cells #[.bool T.on, .int .u8 T.code, .int .u8 T.vol, .int .u32 T.start, .int .i64 T.len, .int .i64 T.ends] 35)).push (.cells #[.int .u32 ot, .bool om, .int .u8 oc, .bool of_, .int .u8 ov, .int .u16 od] 143)
  obtain ⟨g3, hg3⟩ : ∃ g, g = w4.heap.size := ⟨_, rfl⟩
  obtain ⟨W5, hW5⟩ : ∃ V, V = (w4.alloc (Obj.cells #[.bool T.on, .int .u8 T.code, .int .u8 T.vol, .int .u32 T.start, .int .i64 T.len, .int .i64 T.ends] 35)).alloc (Obj.cells #[.int .u32 ot, .bool om, .int .u8 oc, .bool of_, .int .u8 ov, .int .u16 od] 143) := ⟨_, rfl⟩
  rw [← hg3, ← hW5] at BT BO
  rw [← hg3] at hg3w
  go_upto_region 16 with fail
  rw [← hg3]
  rw [← hW5] at S ⊢
  clear hW5 hg3
  go_upto_region 19 with (first | (refine zae rfl 35 (.tmp 11) rfl (g3) 0 rfl 35 ([.bool T.on, .int .u8 T.code, .int .u8 T.vol, .int .u32 T.start, .int .i64 T.len, .int .i64 T.ends]) BT.out 6 _ Tryz.underlying35 zax (show 0 + 6 ≤ 6 by decide) (#[.bool T.on, .int .u8 T.code, .int .u8 T.vol, .int .u32 T.start, .int .i64 T.len, .int .i64 T.ends]) (by rfl) rfl ?_) | (refine zaf rfl 35 (.tmp 95) (.tmp 94) rfl (w.heap.size) 8 rfl 48 (PL p A n c) S.m.box ([.bool T.on, .int .u8 T.code, .int .u8 T.vol, .int .u32 T.start, .int .i64 T.len, .int .i64 T.ends]) rfl zax (show 8 + 6 ≤ 48 by decide) rfl (PL { p with tn := T } A n c) rfl ?_; intro WG BG OG) | fail)
  replace S := S.over OG BG rfl
  replace BO := H9 (OG.blk BO.out (by omega))
  clear BG OG BT
  go_upto_region 20 with fail
  have hlo := S.u.size
  have hgl6 := S.bl.lt
  go_wp2_with (first | (refine zae rfl 108 (.tmp 98) rfl (g3 + 1) 2 rfl 143 ([.int .u32 ot, .bool om, .int .u8 oc, .bool of_, .int .u8 ov, .int .u16 od]) BO.out 4 _ Tryz.underlying108 zkb (show 2 + 4 ≤ 6 by decide) (#[.int .u8 oc, .bool of_, .int .u8 ov, .int .u16 od]) (by rfl) rfl ?_) | fail)
  refine (k2.out _).mono ?_
  rintro e w6 ⟨A8, rfl, hI8, hb1⟩
  replace S := S.later hb1
  replace BO := H9 (BO.out.later hb1)
  have hbo := BO.out.lt
  have HN8 := H9 hI8.2
  have hs6 := hb1.size
  have HP9 : Hid (IntsAv w6 [gl, w.heap.size + 1, w.heap.size] .u8 A8 bs) := H9 (IntsAv.of_new hI8 (by have h1 := hglg; intro x hx; simp at hx; omega))
  clear hb1
  have o0 := BO.out.at 0 _ rfl
  have o1 := BO.out.at 1 _ rfl
  go_upto_region 23 with fail
  go_wp2_with fail
  refine (k6.out A8 _ S.m S.bl).mono ?_
  rintro e w8 ⟨rfl, A9, c9, M9, L9, O9, C9⟩
  rw [← HQ9.out] at M9
  rw [← HK9.out] at O9
  replace S := S.emit M9 L9 C9
  replace HP9 := H9 (HP9.out.chg C9 (by simp))
  have K9 : Hid (PkS w8 w.heap.size [gl, w.heap.size + 1, w.heap.size] A9 [⟨k9, A8, 4⟩]) := H9 (PkS.one O9 HP9.out H9P.out (by intro x hx; simp at hx; omega) (by omega) (fun h0 b off e => by have := HN8.out h0 b off e; omega))
  clear M9 L9 O9 C9 o0 o1 hI8 HP9 BO
  go_upto_region 25 with (first | (refine zaf rfl 33 (.tmp 115) (.tmp 114) rfl (w.heap.size) 5 rfl 48 (PL q9 A n c) S.m.box ([.int .i64 0]) rfl zbh (show 5 + 1 ≤ 48 by decide) rfl (PL { q9 with below := 0 } A n c) rfl ?_; intro WJ BJ OJ) | fail)
  replace S := S.over OJ BJ rfl
  replace K9 := H9 (K9.out.chg (Chg.of_only OJ (S := [w.heap.size]) (by simp)) (by simp))
  clear BJ OJ
  have x4 := S.cell 4 _ rfl
  have z4 := Blk.frozen S.m.box 4
  go_upto_region 31 with fail
  obtain ⟨WH, hV⟩ : ∃ V, V = WJ.setCell ⟨w.heap.size, 4, none⟩ (.bool true) := ⟨_, rfl⟩
  rw [← hV]
  have OV : OnlyB w.heap.size WJ WH := by rw [hV]; exact OnlyB.setCell _ _ _ _
  replace S : SS w WH gl { q9 with below := 0, mrk := true } A n c l A9 1 c9 := by rw [hV]; exact S.set 4 _ rfl rfl
  replace K9 := H9 (K9.out.chg (Chg.of_only OV (S := [w.heap.size]) (by simp)) (by simp))
  clear hV OV x4 z4
  refine zcv (by assumption) ?_
  have ht := C.wf.time
  rw [← H9T.out] at ht ⊢
  exact zka (ks := [⟨k9, A8, 4⟩]) S K9.out ht.1 ht.2 _ FrT.mk
end Go.Proofs.YtahbecinkciahaaGreat
namespace Go.Proofs.YtahbecinkciahaaGreat
open Go.RowKit
theorem zrj {w : World} {p : Sb.Pt} {A : Option Addr} {l : List TW} {n c : Nat} {ZA : Option Addr} {zs : List Int} {zc : Nat} {X : Array Value} (C : SC w p A l n c ZA zs zc) (hX : X = PA p A n c) : Calls Tryz.prog 23 #[.agg X, .slice ZA 160 zc] w (SendR (Sb.send0 p zs) w) := by
 by_cases hto : p.tn.on = true ∨ p.tn.ends ≠ 0
 · refine zjz C hX fun W a gl gq A2 c2 l2 S BQ hgq ha => ?_
   unfold Sb.send0 Sb.later
   rw [if_pos hto]
   exact zri C S BQ hgq hto a ha
 · refine zkl C hX ?_ ?_
   · cases h : p.tn.on
     · rfl
     · exact absurd (Or.inl h) hto
   · rcases Classical.em (p.tn.ends = 0) with h | h
     · exact h
     · exact absurd (Or.inr h) hto
end Go.Proofs.YtahbecinkciahaaGreat
namespace Go.Proofs.YtahbecinkciahaaGreat
attribute [local go_sem ↓] zac zad
attribute [local go_sem] zab zag
open Go.RowKit
theorem zkc : (Tryz.prog.info? 51).map (·.size) = some 11 := by kernel_rfl
def RSentR (p : Sb.Pt) (ty ti : Int) (mk : Bool) (B : Option Addr) (pl : List Int) (bc : Nat) (A : Option Addr) (n c : Nat) (w : World) (e : Ending) (w' : World) : Prop :=
 ∃ g : Nat, e = .returned (.tuple #[.agg (PA (Sb.emit p ty ti mk pl).1 A n c), .slice (some ⟨g, 0, none⟩) 1 1]) ∧ w.heap.size ≤ g ∧ Blk w' g 51 (pktRow (Sb.emit p ty ti mk pl).2 B bc).toArray ∧ Below w.heap.size w w'
theorem zes {w : World} {p : Sb.Pt} {A : Option Addr} {n c : Nat} {X : Array Value} (hX : X = PA p A n c) (hw : p.wf) (ty ti : Int) (mk : Bool) (B : Option Addr) (pl : List Int) (bc : Nat) (hpl : pl.length ≤ 100000) : Calls Tryz.prog 78 #[.agg X, .agg #[.bool mk, .int .u8 ty, .int .u16 0, .int .u32 ti, .int .u32 0, .slice none 0 0, .bool false, .int .u16 0, .slice none 0 0, .slice B pl.length bc, .int .i64 0]] w (RSentR p ty ti mk B pl bc A n c w) := by
 have B0 := H9 (((PB.new w X hX).push (.cells #[.bool mk, .int .u8 ty, .int .u16 0, .int .u32 ti, .int .u32 0, .slice none 0 0, .bool false, .int .u16 0, .slice none 0 0, .slice B pl.length bc, .int .i64 0] 51)).push (.cells (PA Sb.Pt.zero none 0 0) 48))
 have BK := H9 ((Blk.new1 w (.cells X 48) 51 #[.bool mk, .int .u8 ty, .int .u16 0, .int .u32 ti, .int .u32 0, .slice none 0 0, .bool false, .int .u16 0, .slice none 0 0, .slice B pl.length bc, .int .i64 0]).push (.cells (PA Sb.Pt.zero none 0 0) 48))
 have BR := H9 (Blk.new2 w (.cells X 48) (.cells #[.bool mk, .int .u8 ty, .int .u16 0, .int .u32 ti, .int .u32 0, .slice none 0 0, .bool false, .int .u16 0, .slice none 0 0, .slice B pl.length bc, .int .i64 0] 51) 48 (PA Sb.Pt.zero none 0 0))
 have U0 := H9 ((((Bel.refl w).push (.cells X 48)).push (.cells #[.bool mk, .int .u8 ty, .int .u16 0, .int .u32 ti, .int .u32 0, .slice none 0 0, .bool false, .int .u16 0, .slice none 0 0, .slice B pl.length bc, .int .i64 0] 51)).push (.cells (PA Sb.Pt.zero none 0 0) 48))
 have s0 := hw.seq
 have s1 := hw.pk
 have s2 := hw.oc
 clear hX hw
 go_enter Tryz.func78, Tryz.ntmps78
 go_upto_region 1 with fail
 change Code.wp _ _ _ _ (((w.alloc (Obj.cells X 48)).alloc (Obj.cells #[.bool mk, .int .u8 ty, .int .u16 0, .int .u32 ti, .int .u32 0, .slice none 0 0, .bool false, .int .u16 0, .slice none 0 0, .slice B pl.length bc, .int .i64 0] 51)).alloc (Obj.cells (PA Sb.Pt.zero none 0 0) 48))
 obtain ⟨W, hW⟩ : ∃ W, W = ((w.alloc (Obj.cells X 48)).alloc (Obj.cells #[.bool mk, .int .u8 ty, .int .u16 0, .int .u32 ti, .int .u32 0, .slice none 0 0, .bool false, .int .u16 0, .slice none 0 0, .slice B pl.length bc, .int .i64 0] 51)).alloc (Obj.cells (PA Sb.Pt.zero none 0 0) 48) := ⟨_, rfl⟩
 rw [← hW] at B0 BK BR U0 ⊢
 clear hW
 have x2 := PB.cell B0.out 2 _ rfl
 have y2 := BK.out.at 2 _ rfl
 have z2 := BK.out.frozen 2
 go_upto_region 2 with fail
 obtain ⟨W1, hV⟩ : ∃ V, V = W.setCell ⟨w.heap.size + 1, 2, none⟩ (.int .u16 p.seq) := ⟨_, rfl⟩
 rw [← hV]
 have OV : OnlyB (w.heap.size + 1) W W1 := by rw [hV]; exact OnlyB.setCell _ _ _ _
 replace BK := H9 (show Blk W1 (w.heap.size + 1) 51 #[.bool mk, .int .u8 ty, .int .u16 p.seq, .int .u32 ti, .int .u32 0, .slice none 0 0, .bool false, .int .u16 0, .slice none 0 0, .slice B pl.length bc, .int .i64 0] by rw [hV]; exact BK.out.set_ 2 _)
 replace B0 := H9 (OV.blk B0.out (by omega))
 replace BR := H9 (OV.blk BR.out (by omega))
 replace U0 := H9 (OV.bel U0.out (by omega))
 clear hV OV
 clear x2 y2 z2
 have x1 := PB.cell B0.out 1 _ rfl
 have y4 := BK.out.at 4 _ rfl
 have z4 := BK.out.frozen 4
 go_upto_region 3 with fail
 obtain ⟨W2, hV⟩ : ∃ V, V = W1.setCell ⟨w.heap.size + 1, 4, none⟩ (.int .u32 p.src) := ⟨_, rfl⟩
 rw [← hV]
 have OV : OnlyB (w.heap.size + 1) W1 W2 := by rw [hV]; exact OnlyB.setCell _ _ _ _
 replace BK := H9 (show Blk W2 (w.heap.size + 1) 51 #[.bool mk, .int .u8 ty, .int .u16 p.seq, .int .u32 ti, .int .u32 p.src, .slice none 0 0, .bool false, .int .u16 0, .slice none 0 0, .slice B pl.length bc, .int .i64 0] by rw [hV]; exact BK.out.set_ 4 _)
 replace B0 := H9 (OV.blk B0.out (by omega))
 replace BR := H9 (OV.blk BR.out (by omega))
 replace U0 := H9 (OV.bel U0.out (by omega))
 clear hV OV
 clear x1 y4 z4
 have x2 := PB.cell B0.out 2 _ rfl
 have z2 := Blk.frozen B0.out 2
 go_upto_region 4 with fail
 obtain ⟨W3, hV⟩ : ∃ V, V = W2.setCell ⟨w.heap.size, 2, none⟩ (.int .u16 (IntKind.u16.wrap (p.seq + 1))) := ⟨_, rfl⟩
 rw [← hV]
 rw [zqw] at hV
 have OV : OnlyB w.heap.size W2 W3 := by rw [hV]; exact OnlyB.setCell _ _ _ _
 replace B0 := H9 (show PB W3 w.heap.size ({ p with seq := (p.seq + 1) % 65536 }) A n c by rw [hV]; exact PB.set B0.out 2 _ _ rfl)
 replace BK := H9 (OV.blk BK.out (by omega))
 replace BR := H9 (OV.blk BR.out (by omega))
 replace U0 := H9 (OV.bel U0.out (Nat.le_refl _))
 clear hV OV
 clear x2 z2
 have x2 := PB.cell B0.out 46 _ rfl
 have z2 := Blk.frozen B0.out 46
 go_upto_region 5 with fail
 obtain ⟨W4, hV⟩ : ∃ V, V = W3.setCell ⟨w.heap.size, 46, none⟩ (.int .u32 ((p.pk + 1) % 4294967296)) := ⟨_, rfl⟩
 rw [← hV]
 have OV : OnlyB w.heap.size W3 W4 := by rw [hV]; exact OnlyB.setCell _ _ _ _
 replace B0 := H9 (show PB W4 w.heap.size ({ p with seq := (p.seq + 1) % 65536, pk := (p.pk + 1) % 4294967296 }) A n c by rw [hV]; exact PB.set B0.out 46 _ _ rfl)
 replace BK := H9 (OV.blk BK.out (by omega))
 replace BR := H9 (OV.blk BR.out (by omega))
 replace U0 := H9 (OV.bel U0.out (Nat.le_refl _))
 clear hV OV
 clear x2 z2
 have ew : IntKind.u32.wrap (pl.length : Int) = (pl.length : Int) := by rw [zqx]; omega
 have x2 := PB.cell B0.out 47 _ rfl
 have z2 := Blk.frozen B0.out 47
 have y9 := BK.out.at 9 _ rfl
 go_upto_region 6 with fail
 obtain ⟨W5, hV⟩ : ∃ V, V = W4.setCell ⟨w.heap.size, 47, none⟩ (.int .u32 ((p.oc + (pl.length : Int)) % 4294967296)) := ⟨_, rfl⟩
 rw [← hV]
 have OV : OnlyB w.heap.size W4 W5 := by rw [hV]; exact OnlyB.setCell _ _ _ _
 replace B0 := H9 (show PB W5 w.heap.size ((Sb.emit p ty ti mk pl).1) A n c by rw [hV]; exact PB.set B0.out 47 _ _ rfl)
 replace BK := H9 (OV.blk BK.out (by omega))
 replace BR := H9 (OV.blk BR.out (by omega))
 replace U0 := H9 (OV.bel U0.out (Nat.le_refl _))
 clear hV OV
 clear x2 z2 y9 ew
 obtain ⟨q, hq⟩ : ∃ q : Sb.Pt, q = (Sb.emit p ty ti mk pl).1 := ⟨_, rfl⟩
 rw [← hq] at B0
 have HQ := H9 hq
 clear hq
 have hbr := BR.out.lt
 refine wp_region_held_drew (S := fun w' => Blk w' w.heap.size 48 (PL q A n c).toArray ∧ Blk w' (w.heap.size + 1) 51 ([.bool mk, .int .u8 ty, .int .u16 p.seq, .int .u32 ti, .int .u32 p.src, .slice none 0 0, .bool false, .int .u16 0, .slice none 0 0, .slice B pl.length bc, .int .i64 0]).toArray ∧ Bel w w') (by kernel_rfl) ⟨Blk.dr B0.out, Blk.dr BK.out, Bel.drew U0.out⟩ (fun qH => ?_)
 replace BR := H9 (Blk.dr BR.out)
 clear B0 BK U0
 obtain ⟨X9, hX9⟩ : ∃ V, V = W5.drew := ⟨_, rfl⟩
 have hbr9 : w.heap.size + 1 + 1 < X9.heap.size := by rw [hX9]; exact hbr
 rw [← hX9] at qH BR ⊢
 clear hX9 hbr
 refine tk1 (i := 0) (v := .agg (PA q A n c)) rfl (zau rfl 48 (.tmp 2) rfl w.heap.size 0 rfl 48 (PL q A n c) (fun w h => h.1) 48 _ Tryz.underlying48 zah (Nat.le_refl 48) _ rfl rfl) qH ?_
 try simp only [ss9]
 refine tk1 (i := 1) (v := .agg #[.bool mk, .int .u8 ty, .int .u16 p.seq, .int .u32 ti, .int .u32 p.src, .slice none 0 0, .bool false, .int .u16 0, .slice none 0 0, .slice B pl.length bc, .int .i64 0]) rfl (zau rfl 51 (.tmp 3) rfl (w.heap.size + 1) 0 rfl 51 ([.bool mk, .int .u8 ty, .int .u16 p.seq, .int .u32 ti, .int .u32 p.src, .slice none 0 0, .bool false, .int .u16 0, .slice none 0 0, .slice B pl.length bc, .int .i64 0]) (fun w h => h.2.1) 11 _ Tryz.underlying51 zkc (Nat.le_refl 11) _ rfl rfl) qH ?_
 try simp only [ss9]
 refine wpAnyH_ready (rs := [2, 3]) (by kernel_rfl) (by simp) ?_
 refine AllReadyH.cons (o := _) rfl (fun K hK => ?_) (AllReadyH.cons (o := _) rfl (fun K hK => ?_) AllReadyH.nil)
 · go_simp
   refine hK.out _ _ ?_ (fun qH => ?_)
   · (try dsimp only)
     exact ⟨Blk.push qH.1 _, Blk.push qH.2.1 _, Bel.push qH.2.2 _⟩
   clear hK K
   try simp only [ss9]
   have BN := H9 (Blk.new X9 51 #[.bool mk, .int .u8 ty, .int .u16 p.seq, .int .u32 ti, .int .u32 p.src, .slice none 0 0, .bool false, .int .u16 0, .slice none 0 0, .slice B pl.length bc, .int .i64 0])
   replace BR := H9 (BR.out.push (.cells #[.bool mk, .int .u8 ty, .int .u16 p.seq, .int .u32 ti, .int .u32 p.src, .slice none 0 0, .bool false, .int .u16 0, .slice none 0 0, .slice B pl.length bc, .int .i64 0] 51))
   generalize X9.alloc _ = X8 at *
   generalize X9.heap.size = g at *
   refine wpAnyH_ready (rs := [3]) (by kernel_rfl) (by simp) ?_
   refine AllReadyH.cons (o := _) rfl (fun K hK => ?_) AllReadyH.nil
   refine zan rfl 48 (.tmp 4) (.tmp 28) rfl (w.heap.size + 1 + 1) 0 rfl 48 (PL Sb.Pt.zero none 0 0) BR.out (PL q A n c) rfl zah (Nat.le_refl 48) rfl (PL q A n c) rfl ?_
   intro WH BH OH
   have BN2 := H9 (OH.blk BN.out (by omega))
   refine hK.out _ _ ⟨OH.blk qH.1 (by omega), OH.blk qH.2.1 (by omega), OH.bel qH.2.2 (by omega)⟩ (fun hHeld2 => ?_)
   clear hK K
   try simp only [ss9]
   refine tk1 (i := 4) (v := .slice (some ⟨g, 0, none⟩) 1 1) rfl (Or.inl ⟨by rfl, fun w _ => by go_simp; try with_reducible rfl⟩) hHeld2 ?_
   try simp only [ss9]
   refine wpAnyH_done (by kernel_rfl) ?_ _
   go_wp2_with fail
   rw [HQ.out] at BH
   exact bodyPost_ret (v := .tuple #[.agg (PA (Sb.emit p ty ti mk pl).1 A n c), .slice (some ⟨g, 0, none⟩) 1 1]) (zat Tryz.results78 rfl (PB.load BH) rfl) rfl ⟨g, rfl, by omega, BN2.out, hHeld2.2.2⟩
 · refine zan rfl 48 (.tmp 4) (.tmp 28) rfl (w.heap.size + 1 + 1) 0 rfl 48 (PL Sb.Pt.zero none 0 0) BR.out (PL q A n c) rfl zah (Nat.le_refl 48) rfl (PL q A n c) rfl ?_
   intro WH BH OH
   have hsz := OH.2
   refine hK.out _ _ ⟨OH.blk qH.1 (by omega), OH.blk qH.2.1 (by omega), OH.bel qH.2.2 (by omega)⟩ (fun hHeld2 => ?_)
   clear hK K
   try simp only [ss9]
   refine wpAnyH_ready (rs := [2]) (by kernel_rfl) (by simp) ?_
   refine AllReadyH.cons (o := _) rfl (fun K hK => ?_) AllReadyH.nil
   go_simp
   refine hK.out _ _ ?_ (fun qH => ?_)
   · (try dsimp only)
     exact ⟨Blk.push hHeld2.1 _, Blk.push hHeld2.2.1 _, Bel.push hHeld2.2.2 _⟩
   clear hK K
   try simp only [ss9]
   have BN2 := H9 (Blk.new WH 51 #[.bool mk, .int .u8 ty, .int .u16 p.seq, .int .u32 ti, .int .u32 p.src, .slice none 0 0, .bool false, .int .u16 0, .slice none 0 0, .slice B pl.length bc, .int .i64 0])
   replace BH := Blk.push BH (.cells #[.bool mk, .int .u8 ty, .int .u16 p.seq, .int .u32 ti, .int .u32 p.src, .slice none 0 0, .bool false, .int .u16 0, .slice none 0 0, .slice B pl.length bc, .int .i64 0] 51)
   generalize WH.alloc _ = X8 at *
   rw [hsz] at BN2
   generalize X9.heap.size = g at *
   have hHeld2 := qH
   refine tk1 (i := 4) (v := .slice (some ⟨g, 0, none⟩) 1 1) rfl (Or.inl ⟨by rfl, fun w _ => by go_simp; try with_reducible rfl⟩) hHeld2 ?_
   try simp only [ss9]
   refine wpAnyH_done (by kernel_rfl) ?_ _
   go_wp2_with fail
   rw [HQ.out] at BH
   exact bodyPost_ret (v := .tuple #[.agg (PA (Sb.emit p ty ti mk pl).1 A n c), .slice (some ⟨g, 0, none⟩) 1 1]) (zat Tryz.results78 rfl (PB.load BH) rfl) rfl ⟨g, rfl, by omega, BN2.out, hHeld2.2.2⟩
end Go.Proofs.YtahbecinkciahaaGreat
namespace Go.Proofs.YtahbecinkciahaaGreat
open Go.RowKit
def tagV : Value → Nat
 | .int .u8 _ => 1
 | .slice _ _ _ => 2
 | _ => 0
def portT : List Nat := [1, 0, 0, 0, 0, 0, 0, 0, 0, 1, 1, 0, 0, 0, 0, 0, 0, 0, 0, 0, 0, 0, 0, 0, 2, 0, 0, 0, 0, 0, 0, 0, 0, 0, 0, 0, 0, 0, 0, 0, 0, 0, 1, 0, 0, 0, 0, 0]
theorem zrk (p : Sb.Pt) (A : Option Addr) (n c : Nat) : (PL p A n c).map tagV = portT := rfl
theorem zfq {p : Sb.Pt} {A : Option Addr} {n c i : Nat} {v : Value} (h : (PL p A n c)[i]? = some v) : portT[i]? = some (tagV v) := by
 rw [← zrk p A n c, List.getElem?_map, h]; rfl
theorem zli : ∀ i : Fin 48, ¬(portT[i.val]? = some 1 ∧ portT[i.val + 1]? = some 2) := by decide
theorem zrl : ∀ i : Fin 48, portT[i.val]? = some 1 → i.val = 0 ∨ i.val = 9 ∨ i.val = 10 ∨ i.val = 42 := by decide
structure SameB (p p' : Sb.Pt) : Prop where
 codec : p'.codec = p.codec
 code : p'.tn.code = p.tn.code
 vol : p'.tn.vol = p.tn.vol
 hcode : p'.hd.code = p.hd.code
theorem SameB.at {p p' : Sb.Pt} (h : SameB p p') {A A' : Option Addr} {n n' c c' i : Nat} {z : Int} (hi : (PL p A n c)[i]? = some (.int .u8 z)) : (PL p' A' n' c')[i]? = some (.int .u8 z) := by
 have ht := zfq hi
 have hlt : i < 48 := (List.getElem?_eq_some_iff.1 hi).1
 have h1 := h.codec
 have h2 := h.code
 have h3 := h.vol
 have h4 := h.hcode
 rcases zrl ⟨i, hlt⟩ ht with e | e | e | e
 all_goals
  simp only at e
  subst e
  rw [← hi]
 · show some (Value.int .u8 p'.codec) = some (Value.int .u8 p.codec); rw [h1]
 · show some (Value.int .u8 p'.tn.code) = some (Value.int .u8 p.tn.code); rw [h2]
 · show some (Value.int .u8 p'.tn.vol) = some (Value.int .u8 p.tn.vol); rw [h3]
 · show some (Value.int .u8 p'.hd.code) = some (Value.int .u8 p.hd.code); rw [h4]
theorem PB.at' {W : World} {g : Nat} {p : Sb.Pt} {A : Option Addr} {n c i : Nat} (h : PB W g p A n c) : W.cell? ⟨g, i, none⟩ = (PL p A n c)[i]? := by
 have := Blk.cell h i
 rw [this]; unfold PA; simp
theorem Wts.port {W W' : World} {g n n0 c0 n1 c1 : Nat} {p p' : Sb.Pt} {A A0 A1 : Option Addr} {l : List TW} (h : Wts W n A l) (hb : PB W g p A0 n0 c0) (hb' : PB W' g p' A1 n1 c1) (hu : SameB p p') (ho : OnlyB g W W') : Wts W' n A l := by
 refine ⟨fun h0 => ?_, fun a ha h0 => ?_⟩
 · obtain ⟨b, off, e, hlt, hc⟩ := h.1 h0
   have c4 := hc 0 l[0] (List.getElem?_eq_getElem h0) 4 _ rfl
   have c5 := hc 0 l[0] (List.getElem?_eq_getElem h0) 5 _ rfl
   have hne : b ≠ g := fun eb => by
    subst eb
    rw [hb.at'] at c4 c5
    have t4 := zfq c4
    have t5 := zfq c5
    have hl4 : off + 0 * 6 + 4 < 48 := (List.getElem?_eq_some_iff.1 c4).1
    exact zli ⟨off + 0 * 6 + 4, hl4⟩ ⟨t4, t5⟩
   exact ⟨b, off, e, hlt, fun i a ha j v hv => (ho.cell (show b ≠ g from hne)).trans (hc i a ha j v hv)⟩
 · obtain ⟨b, off, e, hlt, hc⟩ := h.2 a ha h0
   refine ⟨b, off, e, hlt, fun i hi => ?_⟩
   have := hc i hi
   by_cases eb : b = g
   · subst eb
     rw [hb.at'] at this
     rw [hb'.at']
     exact hu.at this
   · exact (ho.cell (show b ≠ g from eb)).trans this
theorem SC.pc {w : World} {p : Sb.Pt} {A : Option Addr} {l : List TW} {n c : Nat} {ZA : Option Addr} {zs : List Int} {zc : Nat} (h : SC w p A l n c ZA zs zc) : PC w p A l n c := ⟨h.wf, h.q, h.len, h.n5, h.cap, h.cm, h.av, h.sq, h.pay⟩
def RSendR (R : Sb.Pt × List Sb.Pkt × Int) (w : World) (e : Ending) (w' : World) : Prop := ∃ (A : Option Addr) (n c : Nat) (KA : Option Addr) (kc : Nat) (ks : List TK), e = .returned (.tuple #[.agg (PA R.1 A n c), .slice KA ks.length kc, .int .u8 R.2.2]) ∧ ks.map TK.k = R.2.1 ∧ PW w' R.1 A n ∧ Pks w' w'.heap.size KA ks ∧ Below w.heap.size w w'
theorem PkS.blk {W : World} {g bc : Nat} {S : List Nat} {B : Option Addr} {k : Sb.Pkt} (hb : Blk W g 51 (pktRow k B bc).toArray) (hg : g ∉ S) (hp : IntsAv W S .u8 B k.pl) : PkS W 0 S (some ⟨g, 0, none⟩) [⟨k, B, bc⟩] := by
 refine ⟨⟨fun _ => ⟨g, 0, rfl, hb.lt, fun i a ha j v hv => ?_⟩, fun a ha => ?_⟩, fun _ b off e hS => ?_, fun a ha h0 b off e => ?_, fun _ b off e => Nat.zero_le _, fun a ha h0 b off e => Nat.zero_le _⟩
 · obtain rfl : i = 0 := by have := (List.getElem?_eq_some_iff.1 ha).1; simp at this; omega
   simp at ha
   subst ha
   have h1 := hb.at j v (by simpa [TK.row] using hv)
   simpa using h1
 · obtain rfl := List.mem_singleton.1 ha
   exact hp.1
 · injection e with e; injection e with e1 _; subst e1; exact hg hS
 · obtain rfl := List.mem_singleton.1 ha
   exact hp.2 h0 b off e
theorem IntsAt.off_port {W : World} {N g n c : Nat} {p : Sb.Pt} {A B : Option Addr} {zs : List Int} (h : IntsAt W N .u8 B zs) (hb : PB W g p A n c) (h3 : 3 ≤ zs.length) (b off : Nat) (e : B = some ⟨b, off, none⟩) : b ≠ g := by
 intro eb
 subst eb
 obtain ⟨b', off', e', hlt, hc⟩ := h (by omega)
 rw [e] at e'
 injection e' with e'
 injection e' with e1 e2
 subst e1 e2
 have c0 := hc 0 (by omega)
 have c1 := hc 1 (by omega)
 have c2 := hc 2 (by omega)
 rw [PB.at' hb] at c0 c1 c2
 have t0 := zfq c0
 have t1 := zfq c1
 have t2 := zfq c2
 have hl : off + 2 < 48 := (List.getElem?_eq_some_iff.1 c2).1
 have hu : ∀ i : Fin 46, ¬(portT[i.val]? = some 1 ∧ portT[i.val + 1]? = some 1 ∧ portT[i.val + 2]? = some 1) := by decide
 exact hu ⟨off, by omega⟩ ⟨t0, t1, t2⟩
theorem RB.ints {w W : World} {p : Sb.Pt} {A B : Option Addr} {n c : Nat} {zs : List Int} (S : RB w W p A n c) (h : IntsAt W W.heap.size .u8 B zs) (h3 : 3 ≤ zs.length) : IntsAv W [w.heap.size + 1, w.heap.size] .u8 B zs :=
 ⟨h, fun _ b off e hb => by
  simp at hb
  rcases hb with rfl | rfl
  · exact h.off_port S.b1 h3 _ off e rfl
  · exact h.off_port S.b0 h3 _ off e rfl⟩
theorem zet {P : Program} {ops : Array Oper} {o : Oper} {a : Act} {w : World} {S : World → Prop} {v : Value} {K : Act → World → Prop} {Q : Exit → Act → World → Prop} {E : Prop} (hgd : o.guard = none) (hy : YieldsIf P ops S o v a) (hS : S w) (h : K (a.put o.dst v) w) : if Region.wanted o (yielded ops a.tmps) = true then Oper.wp P o a w K Q else E := by
 have hw : Region.wanted o (yielded ops a.tmps) = true := by simp [Region.wanted, hgd]
 rw [if_pos hw]
 rcases hy with ⟨_, hv⟩ | ⟨hn, _⟩
 · unfold Oper.wp
   rw [hv w hS]
   unfold Oper.upon
   exact h
 · rw [hw] at hn; cases hn
noncomputable def rs6_code : Code := ((Tryz.f24.body.bind (fromReg 6)).getD .skip)
theorem r134 (s : Nat → Value) : ((List.range 134).map s).toArray = #[s 0, s 1, s 2, s 3, s 4, s 5, s 6, s 7, s 8, s 9, s 10, s 11, s 12, s 13, s 14, s 15, s 16, s 17, s 18, s 19, s 20, s 21, s 22, s 23, s 24, s 25, s 26, s 27, s 28, s 29, s 30, s 31, s 32, s 33, s 34, s 35, s 36, s 37, s 38, s 39, s 40, s 41, s 42, s 43, s 44, s 45, s 46, s 47, s 48, s 49, s 50, s 51, s 52, s 53, s 54, s 55, s 56, s 57, s 58, s 59, s 60, s 61, s 62, s 63, s 64, s 65, s 66, s 67, s 68, s 69, s 70, s 71, s 72, s 73, s 74, s 75, s 76, s 77, s 78, s 79, s 80, s 81, s 82, s 83, s 84, s 85, s 86, s 87, s 88, s 89, s 90, s 91, s 92, s 93, s 94, s 95, s 96, s 97, s 98, s 99, s 100, s 101, s 102, s 103, s 104, s 105, s 106, s 107, s 108, s 109, s 110, s 111, s 112, s 113, s 114, s 115, s 116, s 117, s 118, s 119, s 120, s 121, s 122, s 123, s 124, s 125, s 126, s 127, s 128, s 129, s 130, s 131, s 132, s 133] := rfl
end Go.Proofs.YtahbecinkciahaaGreat
namespace Go.Proofs.YtahbecinkciahaaGreat
attribute [local go_sem ↓] zac zad
attribute [local go_sem] zab zag
open Go.RowKit
theorem zpe {w : World} {p : Sb.Pt} {A : Option Addr} {l : List TW} {n c : Nat} {X : Array Value} {ZA : Option Addr} {zn zc : Nat} (C : PC w p A l n c) (hX : X = PA p A n c) (hz : p.valid = false ∨ zn ≠ 160) : Calls Tryz.prog 23 #[.agg X, .slice ZA zn zc] w (RSendR (Sb.Pt.zero, [], 2) w) := by
 have S := RB.new w X hX
 obtain ⟨v, hv⟩ : ∃ v, v = p.valid := ⟨_, rfl⟩
 have k1 := H9 fun (W : World) hW => zce p C.wf A l n c (PA p A n c) rfl W C.q C.len C.n5 hW C.sq v hv
 rw [← hv] at hz
 clear hv
 clear hX
 go_enter Tryz.func23, Tryz.ntmps23
 go_upto_region 1 with fail
 change Code.wp _ _ _ _ ((w.alloc (Obj.cells X 48)).alloc (Obj.cells (PA Sb.Pt.zero none 0 0) 48))
 obtain ⟨W, hW⟩ : ∃ W, W = (w.alloc (Obj.cells X 48)).alloc (Obj.cells (PA Sb.Pt.zero none 0 0) 48) := ⟨_, rfl⟩
 rw [← hW] at S ⊢
 clear hW
 go_wp2_with (first | (refine zae rfl 48 (.tmp 2) rfl (w.heap.size) 0 rfl 48 (PL p A n c) S.b0 48 _ Tryz.underlying48 zah (show 0 + 48 ≤ 48 by decide) (PA p A n c) (by rfl) rfl ?_) | fail)
 refine (k1.out _ (C.av.later S.u)).mono ?_
 rintro e w1 ⟨rfl, hb1⟩
 replace S := S.later hb1
 clear hb1 k1
 have hL := S.lt
 cases v
 rotate_left
 · have hz2 : ¬(zn = 160) := by rcases hz with h | h; cases h; exact h
   clear hz
   have hz3 : ¬((zn : Int) = 160) := by omega
   have hz4 : ((zn : Int) != 160) = true := by simpa using hz3
   go_wp2_with (first | (refine zaf rfl 48 (.tmp 4) (.tmp 28) rfl (w.heap.size + 1) 0 rfl 48 (PL Sb.Pt.zero none 0 0) S.b1 (PL Sb.Pt.zero none 0 0) rfl zah (show 0 + 48 ≤ 48 by decide) rfl (PL Sb.Pt.zero none 0 0) rfl ?_; intro WH BH OH) | fail)
   exact bodyPost_ret (v := .tuple #[.agg (PA Sb.Pt.zero none 0 0), .slice none 0 0, .int .u8 2]) (zao Tryz.results23 rfl (PB.load (p := Sb.Pt.zero) (A := none) (n := 0) (c := 0) BH) rfl rfl) rfl ⟨none, 0, 0, none, 0, [], rfl, rfl, PW.zero, Pks.nil, OH.bel S.u (by omega)⟩
 · clear hz
   go_wp2_with (first | (refine zaf rfl 48 (.tmp 4) (.tmp 28) rfl (w.heap.size + 1) 0 rfl 48 (PL Sb.Pt.zero none 0 0) S.b1 (PL Sb.Pt.zero none 0 0) rfl zah (show 0 + 48 ≤ 48 by decide) rfl (PL Sb.Pt.zero none 0 0) rfl ?_; intro WH BH OH) | fail)
   exact bodyPost_ret (v := .tuple #[.agg (PA Sb.Pt.zero none 0 0), .slice none 0 0, .int .u8 2]) (zao Tryz.results23 rfl (PB.load (p := Sb.Pt.zero) (A := none) (n := 0) (c := 0) BH) rfl rfl) rfl ⟨none, 0, 0, none, 0, [], rfl, rfl, PW.zero, Pks.nil, OH.bel S.u (by omega)⟩
theorem znh {w : World} {p : Sb.Pt} {A : Option Addr} {l : List TW} {n c : Nat} {ZA : Option Addr} {zs : List Int} {zc : Nat} {X : Array Value} {R : Ending → World → Prop} (C : SC w p A l n c ZA zs zc) (hX : X = PA p A n c)
 (h : ∀ (W : World) (a : Act), RB w W { p with time := (p.time + 160) % 4294967296 } A n c → Fr 134 [(1, .slice ZA 160 zc), (2, .pointer (some ⟨w.heap.size, 0, none⟩)), (4, .pointer (some ⟨w.heap.size + 1, 0, none⟩)), (7, .int .u32 p.time), (8, .slice none 0 0)] a → firstWp Tryz.prog rs6_code (bodyPost Tryz.prog Tryz.f24 R) a W) : Calls Tryz.prog 24 #[.agg X, .slice ZA 160 zc] w R := by
 have S := RB.new w X hX
 have hv := C.v.symm
 have k1 := H9 fun (W : World) hW => zch p A l n c (PA p A n c) rfl W C.q C.len C.n5 hW (fun a h => Nat.le_trans (C.pay a h) (by decide)) true hv
 have ht0 := C.wf.time.1
 have ht1 := C.wf.time.2
 clear hv
 clear hX
 go_enter Tryz.func24, Tryz.ntmps24
 go_upto_region 1 with fail
 change Code.wp _ _ _ _ ((w.alloc (Obj.cells X 48)).alloc (Obj.cells (PA Sb.Pt.zero none 0 0) 48))
 obtain ⟨W, hW⟩ : ∃ W, W = (w.alloc (Obj.cells X 48)).alloc (Obj.cells (PA Sb.Pt.zero none 0 0) 48) := ⟨_, rfl⟩
 rw [← hW] at S ⊢
 clear hW
 go_wp2_with (first | (refine zae rfl 48 (.tmp 2) rfl (w.heap.size) 0 rfl 48 (PL p A n c) S.b0 48 _ Tryz.underlying48 zah (show 0 + 48 ≤ 48 by decide) (PA p A n c) (by rfl) rfl ?_) | fail)
 refine (k1.out _ (C.av.later S.u)).mono ?_
 rintro e w1 ⟨rfl, hb1⟩
 replace S := S.later hb1
 clear hb1 k1
 have x3 := S.cell 3 _ rfl
 have z3 := Blk.frozen S.b0 3
 go_upto_region 6 with fail
 obtain ⟨W2, hV⟩ : ∃ V, V = w1.setCell ⟨w.heap.size, 3, none⟩ (.int .u32 ((p.time + 160) % 4294967296)) := ⟨_, rfl⟩
 rw [← hV]
 replace S : RB w W2 { p with time := (p.time + 160) % 4294967296 } A n c := by rw [hV]; exact S.set 3 _ rfl
 clear hV x3 z3
 refine zeh (by assumption) (by assumption) ?_
 exact h _ _ S (Fr.mk rfl ⟨rfl, rfl, rfl, rfl, rfl, trivial⟩)
section
variable (on : Bool) (code vol start len ends n : Int) (w : World)
theorem zni (hv : Ev.Snd.valid ⟨on, code, vol, start, len, ends⟩ = false) :
 Calls Tryz.prog 76 #[.agg #[.bool on, .int .u8 code, .int .u8 vol, .int .u32 start, .int .i64 len, .int .i64 ends], .int .i64 n] w fun e w' => e = .returned (.tuple #[.agg (Ev.next ⟨on, code, vol, start, len, ends⟩ n).s.row, .agg #[.int .u32 (Ev.next ⟨on, code, vol, start, len, ends⟩ n).o.time, .bool (Ev.next ⟨on, code, vol, start, len, ends⟩ n).o.marker, .int .u8 (Ev.next ⟨on, code, vol, start, len, ends⟩ n).o.tone.code, .bool (Ev.next ⟨on, code, vol, start, len, ends⟩ n).o.tone.fin, .int .u8 (Ev.next ⟨on, code, vol, start, len, ends⟩ n).o.tone.vol, .int .u16 (Ev.next ⟨on, code, vol, start, len, ends⟩ n).o.tone.dur], .bool (Ev.next ⟨on, code, vol, start, len, ends⟩ n).some, .int .u8 (Ev.next ⟨on, code, vol, start, len, ends⟩ n).err]) ∧ Below w.heap.size w w' := by
 have k1 := H9 fun W => zaq on code vol start len ends W
 rw [hv] at k1
 obtain ⟨R, hR⟩ : ∃ R, R = Ev.next ⟨on, code, vol, start, len, ends⟩ n := ⟨_, rfl⟩
 rw [← hR]
 unfold Ev.next at hR
 rw [hv] at hR
 skip
 have HR := H9 hR
 clear hv hR
 go_enter Tryz.func76, Tryz.ntmps76
 go_wp2_with (go_at_call 68; refine (k1.out _).mono ?_; rintro e w1 ⟨rfl, rfl⟩)
 all_goals
  refine bodyPost_ret (v := .tuple #[.agg R.s.row, .agg #[.int .u32 R.o.time, .bool R.o.marker, .int .u8 R.o.tone.code, .bool R.o.tone.fin, .int .u8 R.o.tone.vol, .int .u16 R.o.tone.dur], .bool R.some, .int .u8 R.err]) ?_ rfl ⟨rfl, ?_⟩
  · have hR := HR.out
    first
     | (simp_all [results, Tryz.results76, go_sem, Ev.Snd.zero, Ev.Snd.row, Ev.Out.zero, Ev.Tone.zero]; done)
     | (simp_all [results, Tryz.results76, go_sem, Ev.Snd.zero, Ev.Snd.row, Ev.Out.zero, Ev.Tone.zero]; (repeat' split) <;> first | omega | (simp_all; done) | (simp_all; omega))
  · repeat (first | exact Below.refl _ _ | refine Below.drew ?_ | refine Below.setCell ?_ (by simp) _ | refine Below.alloc ?_ (by simp; try omega) _)
theorem zin (hv : Ev.Snd.valid ⟨on, code, vol, start, len, ends⟩ = true) (hn : n < 1 ∨ 8000 < n) :
 Calls Tryz.prog 76 #[.agg #[.bool on, .int .u8 code, .int .u8 vol, .int .u32 start, .int .i64 len, .int .i64 ends], .int .i64 n] w fun e w' => e = .returned (.tuple #[.agg (Ev.next ⟨on, code, vol, start, len, ends⟩ n).s.row, .agg #[.int .u32 (Ev.next ⟨on, code, vol, start, len, ends⟩ n).o.time, .bool (Ev.next ⟨on, code, vol, start, len, ends⟩ n).o.marker, .int .u8 (Ev.next ⟨on, code, vol, start, len, ends⟩ n).o.tone.code, .bool (Ev.next ⟨on, code, vol, start, len, ends⟩ n).o.tone.fin, .int .u8 (Ev.next ⟨on, code, vol, start, len, ends⟩ n).o.tone.vol, .int .u16 (Ev.next ⟨on, code, vol, start, len, ends⟩ n).o.tone.dur], .bool (Ev.next ⟨on, code, vol, start, len, ends⟩ n).some, .int .u8 (Ev.next ⟨on, code, vol, start, len, ends⟩ n).err]) ∧ Below w.heap.size w w' := by
 have k1 := H9 fun W => zaq on code vol start len ends W
 rw [hv] at k1
 obtain ⟨R, hR⟩ : ∃ R, R = Ev.next ⟨on, code, vol, start, len, ends⟩ n := ⟨_, rfl⟩
 rw [← hR]
 unfold Ev.next at hR
 rw [hv] at hR
 skip
 have HR := H9 hR
 clear hv hR
 rcases hn with hn | hn
 all_goals
  go_enter Tryz.func76, Tryz.ntmps76
  go_wp2_with (go_at_call 68; refine (k1.out _).mono ?_; rintro e w1 ⟨rfl, rfl⟩)
  all_goals
   refine bodyPost_ret (v := .tuple #[.agg R.s.row, .agg #[.int .u32 R.o.time, .bool R.o.marker, .int .u8 R.o.tone.code, .bool R.o.tone.fin, .int .u8 R.o.tone.vol, .int .u16 R.o.tone.dur], .bool R.some, .int .u8 R.err]) ?_ rfl ⟨rfl, ?_⟩
   · have hR := HR.out
     first
      | (simp_all [results, Tryz.results76, go_sem, Ev.Snd.zero, Ev.Snd.row, Ev.Out.zero, Ev.Tone.zero]; done)
      | (simp_all [results, Tryz.results76, go_sem, Ev.Snd.zero, Ev.Snd.row, Ev.Out.zero, Ev.Tone.zero]; (repeat' split) <;> first | omega | (simp_all; done) | (simp_all; omega))
   · repeat (first | exact Below.refl _ _ | refine Below.drew ?_ | refine Below.setCell ?_ (by simp) _ | refine Below.alloc ?_ (by simp; try omega) _)
theorem zpf (hv : Ev.Snd.valid ⟨true, code, vol, start, len, ends⟩ = true) (hn0 : 1 ≤ n) (hn1 : n ≤ 8000) :
 Calls Tryz.prog 76 #[.agg #[.bool true, .int .u8 code, .int .u8 vol, .int .u32 start, .int .i64 len, .int .i64 ends], .int .i64 n] w fun e w' => e = .returned (.tuple #[.agg (Ev.next ⟨true, code, vol, start, len, ends⟩ n).s.row, .agg #[.int .u32 (Ev.next ⟨true, code, vol, start, len, ends⟩ n).o.time, .bool (Ev.next ⟨true, code, vol, start, len, ends⟩ n).o.marker, .int .u8 (Ev.next ⟨true, code, vol, start, len, ends⟩ n).o.tone.code, .bool (Ev.next ⟨true, code, vol, start, len, ends⟩ n).o.tone.fin, .int .u8 (Ev.next ⟨true, code, vol, start, len, ends⟩ n).o.tone.vol, .int .u16 (Ev.next ⟨true, code, vol, start, len, ends⟩ n).o.tone.dur], .bool (Ev.next ⟨true, code, vol, start, len, ends⟩ n).some, .int .u8 (Ev.next ⟨true, code, vol, start, len, ends⟩ n).err]) ∧ Below w.heap.size w w' := by
 have k1 := H9 fun W => zaq true code vol start len ends W
 rw [hv] at k1
 obtain ⟨R, hR⟩ : ∃ R, R = Ev.next ⟨true, code, vol, start, len, ends⟩ n := ⟨_, rfl⟩
 rw [← hR]
 unfold Ev.next at hR
 rw [hv] at hR
 obtain ⟨b1, b2, b3, b4, b5, b6⟩ := zcs hv
 obtain rfl := b6 rfl
 have HR := H9 hR
 clear hv hR
 go_enter Tryz.func76, Tryz.ntmps76
 go_wp2_with (go_at_call 68; refine (k1.out _).mono ?_; rintro e w1 ⟨rfl, rfl⟩)
 all_goals (try (go_region; go_wp2))
 all_goals
  refine bodyPost_ret (v := .tuple #[.agg R.s.row, .agg #[.int .u32 R.o.time, .bool R.o.marker, .int .u8 R.o.tone.code, .bool R.o.tone.fin, .int .u8 R.o.tone.vol, .int .u16 R.o.tone.dur], .bool R.some, .int .u8 R.err]) ?_ rfl ⟨rfl, ?_⟩
  · have hR := HR.out
    first
     | (simp_all [results, Tryz.results76, go_sem, Ev.Snd.zero, Ev.Snd.row, Ev.Out.zero, Ev.Tone.zero]; done)
     | (simp_all [results, Tryz.results76, go_sem, Ev.Snd.zero, Ev.Snd.row, Ev.Out.zero, Ev.Tone.zero]; (repeat' split) <;> first | omega | (simp_all; done) | (simp_all; omega))
  · repeat (first | exact Below.refl _ _ | refine Below.drew ?_ | refine Below.setCell ?_ (by simp) _ | refine Below.alloc ?_ (by simp; try omega) _)
theorem znj (hv : Ev.Snd.valid ⟨false, code, vol, start, len, ends⟩ = true) (hn0 : 1 ≤ n) (hn1 : n ≤ 8000) :
 Calls Tryz.prog 76 #[.agg #[.bool false, .int .u8 code, .int .u8 vol, .int .u32 start, .int .i64 len, .int .i64 ends], .int .i64 n] w fun e w' => e = .returned (.tuple #[.agg (Ev.next ⟨false, code, vol, start, len, ends⟩ n).s.row, .agg #[.int .u32 (Ev.next ⟨false, code, vol, start, len, ends⟩ n).o.time, .bool (Ev.next ⟨false, code, vol, start, len, ends⟩ n).o.marker, .int .u8 (Ev.next ⟨false, code, vol, start, len, ends⟩ n).o.tone.code, .bool (Ev.next ⟨false, code, vol, start, len, ends⟩ n).o.tone.fin, .int .u8 (Ev.next ⟨false, code, vol, start, len, ends⟩ n).o.tone.vol, .int .u16 (Ev.next ⟨false, code, vol, start, len, ends⟩ n).o.tone.dur], .bool (Ev.next ⟨false, code, vol, start, len, ends⟩ n).some, .int .u8 (Ev.next ⟨false, code, vol, start, len, ends⟩ n).err]) ∧ Below w.heap.size w w' := by
 have k1 := H9 fun W => zaq false code vol start len ends W
 rw [hv] at k1
 obtain ⟨R, hR⟩ : ∃ R, R = Ev.next ⟨false, code, vol, start, len, ends⟩ n := ⟨_, rfl⟩
 rw [← hR]
 unfold Ev.next at hR
 rw [hv] at hR
 obtain ⟨b1, b2, b3, b4, b5, b6⟩ := zcs hv
 have HR := H9 hR
 clear hv hR
 go_enter Tryz.func76, Tryz.ntmps76
 go_wp2_with (go_at_call 68; refine (k1.out _).mono ?_; rintro e w1 ⟨rfl, rfl⟩)
 all_goals (try (go_region; go_wp2))
 all_goals
  refine bodyPost_ret (v := .tuple #[.agg R.s.row, .agg #[.int .u32 R.o.time, .bool R.o.marker, .int .u8 R.o.tone.code, .bool R.o.tone.fin, .int .u8 R.o.tone.vol, .int .u16 R.o.tone.dur], .bool R.some, .int .u8 R.err]) ?_ rfl ⟨rfl, ?_⟩
  · have hR := HR.out
    first
     | (simp_all [results, Tryz.results76, go_sem, Ev.Snd.zero, Ev.Snd.row, Ev.Out.zero, Ev.Tone.zero]; done)
     | (simp_all [results, Tryz.results76, go_sem, Ev.Snd.zero, Ev.Snd.row, Ev.Out.zero, Ev.Tone.zero]; (repeat' split) <;> first | omega | (simp_all; done) | (simp_all; omega))
  · repeat (first | exact Below.refl _ _ | refine Below.drew ?_ | refine Below.setCell ?_ (by simp) _ | refine Below.alloc ?_ (by simp; try omega) _)
theorem zpg :
 Calls Tryz.prog 76 #[.agg #[.bool on, .int .u8 code, .int .u8 vol, .int .u32 start, .int .i64 len, .int .i64 ends], .int .i64 n] w fun e w' => e = .returned (.tuple #[.agg (Ev.next ⟨on, code, vol, start, len, ends⟩ n).s.row, .agg #[.int .u32 (Ev.next ⟨on, code, vol, start, len, ends⟩ n).o.time, .bool (Ev.next ⟨on, code, vol, start, len, ends⟩ n).o.marker, .int .u8 (Ev.next ⟨on, code, vol, start, len, ends⟩ n).o.tone.code, .bool (Ev.next ⟨on, code, vol, start, len, ends⟩ n).o.tone.fin, .int .u8 (Ev.next ⟨on, code, vol, start, len, ends⟩ n).o.tone.vol, .int .u16 (Ev.next ⟨on, code, vol, start, len, ends⟩ n).o.tone.dur], .bool (Ev.next ⟨on, code, vol, start, len, ends⟩ n).some, .int .u8 (Ev.next ⟨on, code, vol, start, len, ends⟩ n).err]) ∧ Below w.heap.size w w' := by
 cases hv : Ev.Snd.valid ⟨on, code, vol, start, len, ends⟩
 · exact zni on code vol start len ends n w hv
 · by_cases hn : n < 1 ∨ 8000 < n
   · exact zin on code vol start len ends n w hv hn
   · cases on
     · exact znj code vol start len ends n w hv (by omega) (by omega)
     · exact zpf code vol start len ends n w hv (by omega) (by omega)
end
theorem zrm {w W : World} {p : Sb.Pt} {A : Option Addr} {l : List TW} {n c : Nat} {ZA : Option Addr} {zs : List Int} {zc : Nat} (C : SC w p A l n c ZA zs zc) (S : RB w W { p with time := (p.time + 160) % 4294967296 } A n c) (hto : p.tn.on = true ∨ p.tn.ends ≠ 0) (a : Act) (ha : Fr 134 [(1, .slice ZA 160 zc), (2, .pointer (some ⟨w.heap.size, 0, none⟩)), (4, .pointer (some ⟨w.heap.size + 1, 0, none⟩)), (7, .int .u32 p.time), (8, .slice none 0 0)] a) : firstWp Tryz.prog rs6_code (bodyPost Tryz.prog Tryz.f24 (RSendR ((Sb.emit { p with time := (p.time + 160) % 4294967296, tn := (Ev.next p.tn 160).s, below := 0, mrk := true } 101 (Ev.next p.tn 160).o.time (Ev.next p.tn 160).o.marker (Ev.encT (Ev.next p.tn 160).o.tone.code (Ev.next p.tn 160).o.tone.fin (Ev.next p.tn 160).o.tone.vol (Ev.next p.tn 160).o.tone.dur).1).1, [(Sb.emit { p with time := (p.time + 160) % 4294967296, tn := (Ev.next p.tn 160).s, below := 0, mrk := true } 101 (Ev.next p.tn 160).o.time (Ev.next p.tn 160).o.marker (Ev.encT (Ev.next p.tn 160).o.tone.code (Ev.next p.tn 160).o.tone.fin (Ev.next p.tn 160).o.tone.vol (Ev.next p.tn 160).o.tone.dur).1).2], 0) w)) a W := by
 obtain ⟨s, rfl, e1, e2, e4, e7, e8, _⟩ := ha
 rw [r134, e1, e2, e4, e7, e8]
 clear e1 e2 e4 e7 e8
 have hvt : p.tn.valid = true := by
  have hv := C.v
  unfold Sb.Pt.valid at hv
  simp only [Bool.and_eq_true] at hv
  exact hv.1.2
 have hen0 : 0 ≤ p.tn.ends := by
  unfold Ev.Snd.valid at hvt
  simp only [Bool.and_eq_true, decide_eq_true_eq] at hvt
  omega
 obtain ⟨x1, x2, x3, x4⟩ := Sb.next_some p.tn hvt hto C.wf.tvol.1
 have k1 : ∀ W : World, Calls Tryz.prog 76 #[.agg #[.bool p.tn.on, .int .u8 p.tn.code, .int .u8 p.tn.vol, .int .u32 p.tn.start, .int .i64 p.tn.len, .int .i64 p.tn.ends], .int .i64 160] W fun e w' => e = .returned (.tuple #[.agg (Ev.next p.tn 160).s.row, .agg #[.int .u32 (Ev.next p.tn 160).o.time, .bool (Ev.next p.tn 160).o.marker, .int .u8 (Ev.next p.tn 160).o.tone.code, .bool (Ev.next p.tn 160).o.tone.fin, .int .u8 (Ev.next p.tn 160).o.tone.vol, .int .u16 (Ev.next p.tn 160).o.tone.dur], .bool (Ev.next p.tn 160).some, .int .u8 (Ev.next p.tn 160).err]) ∧ Below W.heap.size W w' := fun W => zpg p.tn.on p.tn.code p.tn.vol p.tn.start p.tn.len p.tn.ends 160 W
 rw [x1, x2] at k1
 have HTC := H9 (Sb.next_wf p.tn 160 C.wf.tvol C.wf.tcode C.wf.tst)
 generalize Ev.next p.tn 160 = NX at *
 obtain ⟨T, ⟨ot, om, ⟨oc, of_, ov, od⟩⟩, os_, oe⟩ := NX
 simp only at k1 x3 x4 HTC ⊢
 unfold Ev.Snd.row at k1
 replace k1 := H9 k1
 have k2 := H9 fun W => zfb oc of_ ov od W x3.1 x4.1 x4.2
 have he2 : (Ev.encT oc of_ ov od).2 = 0 := by unfold Ev.encT; rw [if_neg (by omega)]
 have hpl : (Ev.encT oc of_ ov od).1.length = 4 := by unfold Ev.encT; rw [if_neg (by omega)]; rfl
 rw [he2] at k2
 generalize (Ev.encT oc of_ ov od).1 = bs at *
 unfold RetInts at k2
 rw [hpl] at k2
 have HW5 := H9 (show ({ p with time := (p.time + 160) % 4294967296, tn := T, below := 0, mrk := true } : Sb.Pt).wf from ⟨C.wf.codec, C.wf.src, C.wf.seq, by dsimp only; omega, by dsimp only; decide, HTC.out.1, HTC.out.2.1, HTC.out.2.2, C.wf.seed, C.wf.pk, C.wf.oc⟩)
 obtain ⟨q9, hq9⟩ : ∃ q, q = (Sb.emit { p with time := (p.time + 160) % 4294967296, tn := T, below := 0, mrk := true } 101 ot om bs).1 := ⟨_, rfl⟩
 obtain ⟨k9, hk9⟩ : ∃ k, k = (Sb.emit { p with time := (p.time + 160) % 4294967296, tn := T, below := 0, mrk := true } 101 ot om bs).2 := ⟨_, rfl⟩
 rw [← hq9, ← hk9]
 have HQ9 := H9 hq9
 have HK9 := H9 hk9
 have H9J := H9 (show q9.jt = p.jt by rw [hq9]; rfl)
 have H9P := H9 (show k9.pl = bs by rw [hk9]; rfl)
 have k6 := fun (A8 : Option Addr) (c8 : Nat) (V : World) => zes (w := V) (p := { p with time := (p.time + 160) % 4294967296, tn := T, below := 0, mrk := true }) (A := A) (n := n) (c := c) rfl HW5.out 101 ot om A8 bs c8 (by omega)
 rw [hpl] at k6
 replace k6 := H9 k6
 have HBL := H9 hpl
 clear hq9 hk9 x1 x2 x3 x4 hvt hpl he2
 refine zcm ?_
 intro _ _ _ _
 have x8 := S.cell 8 _ rfl
 have x13 := S.cell 13 _ rfl
 have hto2 : p.tn.on = true ∨ (p.tn.on = false ∧ 0 < p.tn.ends) := by
  cases ho : p.tn.on
  · exact .inr ⟨rfl, by rcases hto with h | h; rw [ho] at h; cases h; omega⟩
  · exact .inl rfl
 clear hto hen0
 rcases hto2 with h8 | ⟨h8, h13⟩
 all_goals
  dsimp only at x8 x13
  rw [h8] at x8
  clear h8
 all_goals go_upto_region 7 with fail
 all_goals
  clear x8 x13
  go_wp2_with (first | (refine zae rfl 35 (.tmp 47) rfl (w.heap.size) 8 rfl 48 (PL { p with time := (p.time + 160) % 4294967296 } A n c) S.b0 6 _ Tryz.underlying35 zax (show 8 + 6 ≤ 48 by decide) (#[.bool p.tn.on, .int .u8 p.tn.code, .int .u8 p.tn.vol, .int .u32 p.tn.start, .int .i64 p.tn.len, .int .i64 p.tn.ends]) (by rfl) rfl ?_) | fail)
  refine (k1.out _).mono ?_
  rintro e w4 ⟨rfl, hb1⟩
  replace S := S.later hb1
  clear hb1
  have BT := H9 ((Blk.new w4 35 #[.bool T.on, .int .u8 T.code, .int .u8 T.vol, .int .u32 T.start, .int .i64 T.len, .int .i64 T.ends]).push (.cells #[.int .u32 ot, .bool om, .int .u8 oc, .bool of_, .int .u8 ov, .int .u16 od] 143))
  have BO := H9 (Blk.new1 w4 (.cells #[.bool T.on, .int .u8 T.code, .int .u8 T.vol, .int .u32 T.start, .int .i64 T.len, .int .i64 T.ends] 35) 143 #[.int .u32 ot, .bool om, .int .u8 oc, .bool of_, .int .u8 ov, .int .u16 od])
  have hg3w := S.lt
  replace S := (S.push (.cells #[.bool T.on, .int .u8 T.code, .int .u8 T.vol, .int .u32 T.start, .int .i64 T.len, .int .i64 T.ends] 35)).push (.cells #[.int .u32 ot, .bool om, .int .u8 oc, .bool of_, .int .u8 ov, .int .u16 od] 143)
  obtain ⟨g3, hg3⟩ : ∃ g, g = w4.heap.size := ⟨_, rfl⟩
  obtain ⟨W5, hW5⟩ : ∃ V, V = (w4.alloc (Obj.cells #[.bool T.on, .int .u8 T.code, .int .u8 T.vol, .int .u32 T.start, .int .i64 T.len, .int .i64 T.ends] 35)).alloc (Obj.cells #[.int .u32 ot, .bool om, .int .u8 oc, .bool of_, .int .u8 ov, .int .u16 od] 143) := ⟨_, rfl⟩
  rw [← hg3, ← hW5] at BT BO
  rw [← hg3] at hg3w
  go_upto_region 8 with fail
  rw [← hg3]
  rw [← hW5] at S ⊢
  clear hW5 hg3
  go_wp2_with (first | (refine zae rfl 108 (.tmp 55) rfl (g3 + 1) 2 rfl 143 ([.int .u32 ot, .bool om, .int .u8 oc, .bool of_, .int .u8 ov, .int .u16 od]) BO.out 4 _ Tryz.underlying108 zkb (show 2 + 4 ≤ 6 by decide) (#[.int .u8 oc, .bool of_, .int .u8 ov, .int .u16 od]) (by rfl) rfl ?_) | fail)
  refine (k2.out _).mono ?_
  rintro e w6 ⟨A8, c8, rfl, hI8, hb1⟩
  replace S := S.later hb1
  replace BO := H9 (BO.out.later hb1)
  replace BT := H9 (BT.out.later hb1)
  have HP9 := H9 (S.ints hI8 (by have := HBL.out; omega))
  clear hb1 hI8
  go_upto_region 10 with (first | (refine zae rfl 35 (.tmp 9) rfl (g3) 0 rfl 35 ([.bool T.on, .int .u8 T.code, .int .u8 T.vol, .int .u32 T.start, .int .i64 T.len, .int .i64 T.ends]) BT.out 6 _ Tryz.underlying35 zax (show 0 + 6 ≤ 6 by decide) (#[.bool T.on, .int .u8 T.code, .int .u8 T.vol, .int .u32 T.start, .int .i64 T.len, .int .i64 T.ends]) (by rfl) rfl ?_) | (refine zaf rfl 35 (.tmp 61) (.tmp 60) rfl (w.heap.size) 8 rfl 48 (PL { p with time := (p.time + 160) % 4294967296 } A n c) S.b0 ([.bool T.on, .int .u8 T.code, .int .u8 T.vol, .int .u32 T.start, .int .i64 T.len, .int .i64 T.ends]) rfl zax (show 8 + 6 ≤ 48 by decide) rfl (PL { p with time := (p.time + 160) % 4294967296, tn := T } A n c) rfl ?_; intro WG BG OG) | fail)
  replace S := S.over OG BG
  replace BO := H9 (OG.blk BO.out (by omega))
  replace HP9 := H9 (HP9.out.chg (Chg.of_only OG (S := [w.heap.size]) (by simp)) (by simp))
  clear BG OG BT
  go_upto_region 11 with (first | (refine zaf rfl 33 (.tmp 63) (.tmp 62) rfl (w.heap.size) 5 rfl 48 (PL { p with time := (p.time + 160) % 4294967296, tn := T } A n c) S.b0 ([.int .i64 0]) rfl zbh (show 5 + 1 ≤ 48 by decide) rfl (PL { p with time := (p.time + 160) % 4294967296, tn := T, below := 0 } A n c) rfl ?_; intro WJ BJ OJ) | fail)
  replace S := S.over OJ BJ
  replace BO := H9 (OJ.blk BO.out (by omega))
  replace HP9 := H9 (HP9.out.chg (Chg.of_only OJ (S := [w.heap.size]) (by simp)) (by simp))
  clear BJ OJ
  have x4 := S.cell 4 _ rfl
  have z4 := Blk.frozen S.b0 4
  go_upto_region 12 with fail
  obtain ⟨WH, hV⟩ : ∃ V, V = WJ.setCell ⟨w.heap.size, 4, none⟩ (.bool true) := ⟨_, rfl⟩
  rw [← hV]
  have OV : OnlyB w.heap.size WJ WH := by rw [hV]; exact OnlyB.setCell _ _ _ _
  replace S : RB w WH { p with time := (p.time + 160) % 4294967296, tn := T, below := 0, mrk := true } A n c := by rw [hV]; exact S.set 4 _ rfl
  replace BO := H9 (OV.blk BO.out (by omega))
  replace HP9 := H9 (HP9.out.chg (Chg.of_only OV (S := [w.heap.size]) (by simp)) (by simp))
  clear hV OV x4 z4
  have o0 := BO.out.at 0 _ rfl
  have o1 := BO.out.at 1 _ rfl
  have hlo := S.lt
  go_wp2_with (first | (refine zae rfl 48 (.tmp 2) rfl (w.heap.size) 0 rfl 48 (PL { p with time := (p.time + 160) % 4294967296, tn := T, below := 0, mrk := true } A n c) S.b0 48 _ Tryz.underlying48 zah (show 0 + 48 ≤ 48 by decide) (PA { p with time := (p.time + 160) % 4294967296, tn := T, below := 0, mrk := true } A n c) (by rfl) rfl ?_) | fail)
  refine (k6.out A8 c8 _).mono ?_
  rintro e w8 ⟨g9, rfl, hg9, BK9, hb1⟩
  rw [← HQ9.out]
  rw [← HK9.out] at BK9
  replace BK9 := H9 BK9
  replace S := S.later hb1
  replace HP9 := H9 (HP9.out.chg (T := []) (Chg.of_below hb1) (by simp))
  clear hb1 o0 o1 BO
  go_upto_region 13 with (first | (refine zaf rfl 48 (.tmp 2) (.tmp 74) rfl (w.heap.size) 0 rfl 48 (PL { p with time := (p.time + 160) % 4294967296, tn := T, below := 0, mrk := true } A n c) S.b0 (PL q9 A n c) rfl zah (show 0 + 48 ≤ 48 by decide) rfl (PL q9 A n c) rfl ?_; intro WG BG OG) | fail)
  replace S := S.over OG BG
  replace BK9 := H9 (OG.blk BK9.out (by omega))
  replace HP9 := H9 (HP9.out.chg (Chg.of_only OG (S := [w.heap.size]) (by simp)) (by simp))
  clear BG OG
  have K9 := H9 (show PkS WG 0 [w.heap.size + 1, w.heap.size] (some ⟨g9, 0, none⟩) [⟨k9, A8, c8⟩] from PkS.blk BK9.out (by simp; omega) (by rw [H9P.out]; exact HP9.out))
  go_wp2_with (first | (refine zae rfl 48 (.tmp 2) rfl (w.heap.size) 0 rfl 48 (PL q9 A n c) S.b0 48 _ Tryz.underlying48 zah (show 0 + 48 ≤ 48 by decide) (PA q9 A n c) (by rfl) rfl ?_) | (refine zaf rfl 48 (.tmp 4) (.tmp 76) rfl (w.heap.size + 1) 0 rfl 48 (PL Sb.Pt.zero none 0 0) S.b1 (PL q9 A n c) rfl zah (show 0 + 48 ≤ 48 by decide) rfl (PL q9 A n c) rfl ?_; intro WH BH OH) | fail)
  exact bodyPost_ret (v := .tuple #[.agg (PA q9 A n c), .slice (some ⟨g9, 0, none⟩) 1 1, .int .u8 0]) (zao Tryz.results24 rfl (PB.load BH) rfl rfl) rfl ⟨A, n, c, _, 1, [⟨k9, A8, c8⟩], rfl, rfl, C.pc.pw (OH.bel S.u (by omega)) H9J.out, (K9.out.chg (Chg.of_only OH (S := [w.heap.size + 1]) (by simp)) (by simp)).rows, OH.bel S.u (by omega)⟩
theorem zsy {w W : World} {p : Sb.Pt} {A : Option Addr} {l : List TW} {n c : Nat} {ZA : Option Addr} {zs : List Int} {zc : Nat} (C : SC w p A l n c ZA zs zc) (S : RB w W { p with time := (p.time + 160) % 4294967296 } A n c) (hon : p.tn.on = false) (hen : p.tn.ends = 0) (hqu : Ev.quiet p.below zs = 10) (a : Act) (ha : Fr 134 [(1, .slice ZA 160 zc), (2, .pointer (some ⟨w.heap.size, 0, none⟩)), (4, .pointer (some ⟨w.heap.size + 1, 0, none⟩)), (7, .int .u32 p.time), (8, .slice none 0 0)] a) : firstWp Tryz.prog rs6_code (bodyPost Tryz.prog Tryz.f24 (RSendR (if p.below < 10 then ((Sb.emit { p with time := (p.time + 160) % 4294967296, below := Ev.quiet p.below zs, mrk := true } 13 p.time false [Ev.lev zs]).1, [(Sb.emit { p with time := (p.time + 160) % 4294967296, below := Ev.quiet p.below zs, mrk := true } 13 p.time false [Ev.lev zs]).2], 0) else ({ p with time := (p.time + 160) % 4294967296, below := Ev.quiet p.below zs, mrk := true }, [], 0)) w)) a W := by
 obtain ⟨s, rfl, e1, e2, e4, e7, e8, _⟩ := ha
 rw [r134, e1, e2, e4, e7, e8]
 clear e1 e2 e4 e7 e8
 have k3 : ∀ W : World, IntsAt W W.heap.size .i16 ZA zs → Calls Tryz.prog 79 #[.agg #[.int .i64 p.below], .slice ZA 160 zc] W fun e w' => e = .returned (.tuple #[.agg #[.int .i64 (Ev.quiet p.below zs)], .bool (Ev.quiet p.below zs == 10)]) ∧ Below W.heap.size W w' := fun W hW => by
  have h := zej p.below ZA zs zc W C.wf.below.1 C.wf.below.2 hW C.zb (by have := C.zl; omega)
  rwa [C.zl] at h
 have k5 : ∀ W : World, IntsAt W W.heap.size .i16 ZA zs → Calls Tryz.prog 80 #[.slice ZA 160 zc] W fun e w' => e = .returned (.int .u8 (Ev.lev zs)) ∧ Below W.heap.size W w' := fun W hW => by
  have h := zfz ZA zs zc W hW C.zb (by have := C.zl; omega)
  rwa [C.zl] at h
 rw [hqu] at k3 ⊢
 rw [show ((10 : Int) == 10) = true from rfl] at k3
 have HW5 := H9 (show ({ p with time := (p.time + 160) % 4294967296, below := 10, mrk := true } : Sb.Pt).wf from ⟨C.wf.codec, C.wf.src, C.wf.seq, by dsimp only; omega, by dsimp only; decide, C.wf.tvol, C.wf.tcode, C.wf.tst, C.wf.seed, C.wf.pk, C.wf.oc⟩)
 clear hqu
 have k6 := H9 fun (A8 : Option Addr) (V : World) => zes (w := V) (p := { p with time := (p.time + 160) % 4294967296, below := 10, mrk := true }) (A := A) (n := n) (c := c) rfl HW5.out 13 p.time false A8 [Ev.lev zs] 1 (by simp)
 replace k3 := H9 k3
 replace k5 := H9 k5
 obtain ⟨RR, hRR⟩ : ∃ R : Sb.Pt × List Sb.Pkt × Int, R = (if p.below < 10 then ((Sb.emit { p with time := (p.time + 160) % 4294967296, below := 10, mrk := true } 13 p.time false [Ev.lev zs]).1, [(Sb.emit { p with time := (p.time + 160) % 4294967296, below := 10, mrk := true } 13 p.time false [Ev.lev zs]).2], 0) else ({ p with time := (p.time + 160) % 4294967296, below := 10, mrk := true }, [], 0)) := ⟨_, rfl⟩
 rw [← hRR]
 have HRR := H9 hRR
 clear hRR
 refine zcm ?_
 intro _ _ _ _
 have x5 := S.cell 5 _ rfl
 have x8 := S.cell 8 _ rfl
 have x13 := S.cell 13 _ rfl
 dsimp only at x8 x13 x5
 rw [hon] at x8
 rw [hen] at x13
 go_upto_region 15 with fail
 clear x8 x13
 go_wp2_with (first | (refine zae rfl 33 (.tmp 82) rfl (w.heap.size) 5 rfl 48 (PL { p with time := (p.time + 160) % 4294967296 } A n c) S.b0 1 _ Tryz.underlying33 zbh (show 5 + 1 ≤ 48 by decide) (#[.int .i64 p.below]) (by rfl) rfl ?_) | fail)
 refine (k3.out _ (C.z.later S.u)).mono ?_
 rintro e w4 ⟨rfl, hb1⟩
 replace S := S.later hb1
 clear hb1 k3 x5
 have BQ := H9 (Blk.new w4 33 #[.int .i64 10])
 have hbl := S.lt
 replace S := S.push (.cells #[.int .i64 10] 33)
 obtain ⟨gq, hgq⟩ : ∃ g, g = w4.heap.size := ⟨_, rfl⟩
 obtain ⟨W5, hW5⟩ : ∃ W, W = w4.alloc (Obj.cells #[.int .i64 10] 33) := ⟨_, rfl⟩
 rw [← hgq, ← hW5] at BQ
 rw [← hgq] at hbl
 go_upto_region 16 with fail
 rw [← hgq]
 rw [← hW5] at S ⊢
 clear hW5 hgq
 go_upto_region 17 with (first | (refine zae rfl 33 (.tmp 16) rfl (gq) 0 rfl 33 ([.int .i64 10]) BQ.out 1 _ Tryz.underlying33 zbh (show 0 + 1 ≤ 1 by decide) (#[.int .i64 10]) (by rfl) rfl ?_) | (refine zaf rfl 33 (.tmp 89) (.tmp 88) rfl (w.heap.size) 5 rfl 48 (PL { p with time := (p.time + 160) % 4294967296 } A n c) S.b0 ([.int .i64 10]) rfl zbh (show 5 + 1 ≤ 48 by decide) rfl (PL { p with time := (p.time + 160) % 4294967296, below := 10 } A n c) rfl ?_; intro WG BG OG) | fail)
 replace S := S.over OG BG
 clear BG OG BQ
 have x4 := S.cell 4 _ rfl
 have z4 := Blk.frozen S.b0 4
 by_cases hbe : p.below < 10
 rotate_left
 · obtain rfl : RR = ({ p with time := (p.time + 160) % 4294967296, below := 10, mrk := true }, [], 0) := by rw [HRR.out, if_neg hbe]
   have hbi : ¬p.below < (10 : Int) := hbe
   go_upto_region 21 with fail
   obtain ⟨WH, hV⟩ : ∃ V, V = WG.setCell ⟨w.heap.size, 4, none⟩ (.bool true) := ⟨_, rfl⟩
   rw [← hV]
   replace S : RB w WH { p with time := (p.time + 160) % 4294967296, below := 10, mrk := true } A n c := by rw [hV]; exact S.set 4 _ rfl
   clear hV x4 z4
   have hL := S.lt
   go_wp2_with (first | (refine zae rfl 48 (.tmp 2) rfl (w.heap.size) 0 rfl 48 (PL { p with time := (p.time + 160) % 4294967296, below := 10, mrk := true } A n c) S.b0 48 _ Tryz.underlying48 zah (show 0 + 48 ≤ 48 by decide) (PA { p with time := (p.time + 160) % 4294967296, below := 10, mrk := true } A n c) (by rfl) rfl ?_) | (refine zaf rfl 48 (.tmp 4) (.tmp 104) rfl (w.heap.size + 1) 0 rfl 48 (PL Sb.Pt.zero none 0 0) S.b1 (PL { p with time := (p.time + 160) % 4294967296, below := 10, mrk := true } A n c) rfl zah (show 0 + 48 ≤ 48 by decide) rfl (PL { p with time := (p.time + 160) % 4294967296, below := 10, mrk := true } A n c) rfl ?_; intro WH BH OH) | fail)
   exact bodyPost_ret (v := .tuple #[.agg (PA { p with time := (p.time + 160) % 4294967296, below := 10, mrk := true } A n c), .slice none 0 0, .int .u8 0]) (zao Tryz.results24 rfl (PB.load BH) rfl rfl) rfl ⟨A, n, c, none, 0, [], rfl, rfl, C.pc.pw (OH.bel S.u (by omega)) rfl, Pks.nil, OH.bel S.u (by omega)⟩
 obtain ⟨q9, hq9⟩ : ∃ q, q = (Sb.emit { p with time := (p.time + 160) % 4294967296, below := 10, mrk := true } 13 p.time false [Ev.lev zs]).1 := ⟨_, rfl⟩
 obtain ⟨k9, hk9⟩ : ∃ k, k = (Sb.emit { p with time := (p.time + 160) % 4294967296, below := 10, mrk := true } 13 p.time false [Ev.lev zs]).2 := ⟨_, rfl⟩
 obtain rfl : RR = (q9, [k9], 0) := by rw [HRR.out, if_pos hbe, hq9, hk9]
 have HQ9 := H9 hq9
 have HK9 := H9 hk9
 have H9J := H9 (show q9.jt = p.jt by rw [hq9]; rfl)
 have H9P := H9 (show k9.pl = [Ev.lev zs] by rw [hk9]; rfl)
 clear hq9 hk9 HRR
 go_upto_region 20 with fail
 obtain ⟨WH, hV⟩ : ∃ V, V = WG.setCell ⟨w.heap.size, 4, none⟩ (.bool true) := ⟨_, rfl⟩
 rw [← hV]
 replace S : RB w WH { p with time := (p.time + 160) % 4294967296, below := 10, mrk := true } A n c := by rw [hV]; exact S.set 4 _ rfl
 clear hV x4 z4
 replace S : RB w WH.drew { p with time := (p.time + 160) % 4294967296, below := 10, mrk := true } A n c := ⟨S.b0, S.b1, Bel.drew S.u⟩
 refine wp_region_held_drew (S := fun _ => True) (by kernel_rfl) trivial (fun qH => ?_)
 obtain ⟨WD, hWD⟩ : ∃ V, V = WH.drew := ⟨_, rfl⟩
 rw [← hWD] at S ⊢
 clear hWD
 refine tk1 (i := 1) (v := ?_) rfl (Or.inl ⟨by rfl, ?_⟩) qH ?_
 rotate_left
 · (intro w hSw; (try dsimp only at hSw); go_simp; try with_reducible rfl)
 try simp only [ss9]
 refine tk1 (i := 2) (v := ?_) rfl (Or.inl ⟨by rfl, ?_⟩) qH ?_
 rotate_left
 · (intro w hSw; (try dsimp only at hSw); go_simp; try with_reducible rfl)
 try simp only [ss9]
 refine wpAnyH_ready (rs := [0, 3]) (by kernel_rfl) (by simp) ?_
 refine AllReadyH.cons (o := _) rfl (fun K hK => ?_) (AllReadyH.cons (o := _) rfl (fun K hK => ?_) AllReadyH.nil)
 · refine zet rfl (zau (S := fun x => x = WD) rfl 48 (.tmp 2) rfl w.heap.size 0 rfl 48 (PL { p with time := (p.time + 160) % 4294967296, below := 10, mrk := true } A n c) (fun x hx => by rw [hx]; exact S.b0) 48 _ Tryz.underlying48 zah (Nat.le_refl 48) (PA { p with time := (p.time + 160) % 4294967296, below := 10, mrk := true } A n c) (by rfl) rfl) rfl ?_
   refine hK.out _ _ trivial (fun qH => ?_)
   clear hK K
   try simp only [ss9]
   refine wpAnyH_ready (rs := [3]) (by kernel_rfl) (by simp) ?_
   refine AllReadyH.cons (o := _) rfl (fun K hK => ?_) ?_
   rotate_left
   · exact AllReadyH.nil
   go_simp
   go_simp
   refine (k5.out _ (C.z.later S.u)).mono ?_
   rintro e w6 ⟨rfl, hb1⟩
   replace S := S.later hb1
   clear hb1
   refine hK.out _ _ ?_ (fun qH => ?_)
   · (try dsimp only)
     all_goals trivial
   clear hK K
   try simp only [ss9]
   refine wpAnyH_ready (rs := [4]) (by kernel_rfl) (by simp) ?_
   refine AllReadyH.cons (o := _) rfl (fun K hK => ?_) ?_
   rotate_left
   · exact AllReadyH.nil
   go_simp
   refine hK.out _ _ ?_ (fun qH => ?_)
   · (try dsimp only)
     all_goals trivial
   clear hK K
   try simp only [ss9]
   have hlw := S.lt
   have HP9 : Hid (IntsAv (w6.alloc (Obj.cells #[.int .u8 (Ev.lev zs)] 5)) [w.heap.size + 1, w.heap.size] .u8 (some ⟨w6.heap.size, 0, none⟩) [Ev.lev zs]) := H9 ⟨IntsAt.lit0 w6 5 .u8 [Ev.lev zs] [.int .u8 (Ev.lev zs)] rfl, fun _ b off e hb => by injection e with e; injection e with e1 _; simp at hb; omega⟩
   replace S := S.push (Obj.cells #[.int .u8 (Ev.lev zs)] 5)
   obtain ⟨gz, hgz⟩ : ∃ g, g = w6.heap.size := ⟨_, rfl⟩
   obtain ⟨W7, hW7⟩ : ∃ V, V = w6.alloc (Obj.cells #[.int .u8 (Ev.lev zs)] 5) := ⟨_, rfl⟩
   rw [← hgz] at HP9 ⊢
   rw [← hW7] at S HP9 ⊢
   clear hW7 hgz hlw
   have hlw := S.lt
   refine tk1 (i := 5) (v := ?_) rfl (Or.inl ⟨by rfl, ?_⟩) qH ?_
   rotate_left
   · (intro w hSw; (try dsimp only at hSw); go_simp; try with_reducible rfl)
   try simp only [ss9]
   refine wpAnyH_ready (rs := [6]) (by kernel_rfl) (by simp) ?_
   refine AllReadyH.cons (o := _) rfl (fun K hK => ?_) ?_
   rotate_left
   · exact AllReadyH.nil
   go_simp
   refine (k6.out (some ⟨gz, 0, none⟩) _).mono ?_
   rintro e w8 ⟨g9, rfl, hg9, BK9, hb1⟩
   rw [← HQ9.out]
   rw [← HK9.out] at BK9
   replace BK9 := H9 BK9
   replace S := S.later hb1
   replace HP9 := H9 (HP9.out.chg (T := []) (Chg.of_below hb1) (by simp))
   clear hb1
   refine hK.out _ _ ?_ (fun qH => ?_)
   · (try dsimp only)
     all_goals trivial
   clear hK K
   try simp only [ss9]
   refine tk1 (i := 7) (v := ?_) rfl (Or.inl ⟨by rfl, ?_⟩) qH ?_
   rotate_left
   · (intro w hSw; (try dsimp only at hSw); go_simp; try with_reducible rfl)
   try simp only [ss9]
   refine tk1 (i := 8) (v := ?_) rfl (Or.inl ⟨by rfl, ?_⟩) qH ?_
   rotate_left
   · (intro w hSw; (try dsimp only at hSw); go_simp; try with_reducible rfl)
   try simp only [ss9]
   refine tk1 (i := 9) (v := ?_) rfl (Or.inl ⟨by rfl, ?_⟩) qH ?_
   rotate_left
   · (intro w hSw; (try dsimp only at hSw); go_simp; try with_reducible rfl)
   try simp only [ss9]
   refine wpAnyH_ready (rs := [10]) (by kernel_rfl) (by simp) ?_
   refine AllReadyH.cons (o := _) rfl (fun K hK => ?_) AllReadyH.nil
   refine zan rfl 48 (.tmp 2) (.tmp 102) rfl w.heap.size 0 rfl 48 (PL { p with time := (p.time + 160) % 4294967296, below := 10, mrk := true } A n c) S.b0 (PL q9 A n c) rfl zah (Nat.le_refl 48) rfl (PL q9 A n c) rfl ?_
   intro WG BG OG
   replace S := S.over OG BG
   replace BK9 := H9 (OG.blk BK9.out (by omega))
   replace HP9 := H9 (HP9.out.chg (Chg.of_only OG (S := [w.heap.size]) (by simp)) (by simp))
   refine hK.out _ _ trivial (fun qH => ?_)
   clear hK K BG OG
   try simp only [ss9]
   refine tk1 (i := 11) (v := ?_) rfl (Or.inl ⟨by rfl, ?_⟩) qH ?_
   rotate_left
   · (intro w hSw; (try dsimp only at hSw); go_simp; try with_reducible rfl)
   try simp only [ss9]
   refine wpAnyH_done (by kernel_rfl) ?_ _
   have K9 := H9 (show PkS WG 0 [w.heap.size + 1, w.heap.size] (some ⟨g9, 0, none⟩) [⟨k9, some ⟨gz, 0, none⟩, 1⟩] from PkS.blk BK9.out (by simp; omega) (by rw [H9P.out]; exact HP9.out))
   go_wp2_with (first | (refine zae rfl 48 (.tmp 2) rfl (w.heap.size) 0 rfl 48 (PL q9 A n c) S.b0 48 _ Tryz.underlying48 zah (show 0 + 48 ≤ 48 by decide) (PA q9 A n c) (by rfl) rfl ?_) | (refine zaf rfl 48 (.tmp 4) (.tmp 104) rfl (w.heap.size + 1) 0 rfl 48 (PL Sb.Pt.zero none 0 0) S.b1 (PL q9 A n c) rfl zah (show 0 + 48 ≤ 48 by decide) rfl (PL q9 A n c) rfl ?_; intro WH BH OH) | fail)
   exact bodyPost_ret (v := .tuple #[.agg (PA q9 A n c), .slice (some ⟨g9, 0, none⟩) 1 1, .int .u8 0]) (zao Tryz.results24 rfl (PB.load BH) rfl rfl) rfl ⟨A, n, c, _, 1, [⟨k9, some ⟨gz, 0, none⟩, 1⟩], rfl, rfl, C.pc.pw (OH.bel S.u (by omega)) H9J.out, (K9.out.chg (Chg.of_only OH (S := [w.heap.size + 1]) (by simp)) (by simp)).rows, OH.bel S.u (by omega)⟩
 · go_simp
   refine (k5.out _ (C.z.later S.u)).mono ?_
   rintro e w6 ⟨rfl, hb1⟩
   replace S := S.later hb1
   clear hb1
   refine hK.out _ _ trivial (fun qH => ?_)
   clear hK K
   try simp only [ss9]
   refine wpAnyH_ready (rs := [0, 4]) (by kernel_rfl) (by simp) ?_
   refine AllReadyH.cons (o := _) rfl (fun K hK => ?_) (AllReadyH.cons (o := _) rfl (fun K hK => ?_) AllReadyH.nil)
   · refine zet rfl (zau (S := fun x => x = w6) rfl 48 (.tmp 2) rfl w.heap.size 0 rfl 48 (PL { p with time := (p.time + 160) % 4294967296, below := 10, mrk := true } A n c) (fun x hx => by rw [hx]; exact S.b0) 48 _ Tryz.underlying48 zah (Nat.le_refl 48) (PA { p with time := (p.time + 160) % 4294967296, below := 10, mrk := true } A n c) (by rfl) rfl) rfl ?_
     refine hK.out _ _ trivial (fun qH => ?_)
     clear hK K
     try simp only [ss9]
     refine wpAnyH_ready (rs := [4]) (by kernel_rfl) (by simp) ?_
     refine AllReadyH.cons (o := _) rfl (fun K hK => ?_) ?_
     rotate_left
     · exact AllReadyH.nil
     go_simp
     refine hK.out _ _ ?_ (fun qH => ?_)
     · (try dsimp only)
       all_goals trivial
     clear hK K
     try simp only [ss9]
     have hlw := S.lt
     have HP9 : Hid (IntsAv (w6.alloc (Obj.cells #[.int .u8 (Ev.lev zs)] 5)) [w.heap.size + 1, w.heap.size] .u8 (some ⟨w6.heap.size, 0, none⟩) [Ev.lev zs]) := H9 ⟨IntsAt.lit0 w6 5 .u8 [Ev.lev zs] [.int .u8 (Ev.lev zs)] rfl, fun _ b off e hb => by injection e with e; injection e with e1 _; simp at hb; omega⟩
     replace S := S.push (Obj.cells #[.int .u8 (Ev.lev zs)] 5)
     obtain ⟨gz, hgz⟩ : ∃ g, g = w6.heap.size := ⟨_, rfl⟩
     obtain ⟨W7, hW7⟩ : ∃ V, V = w6.alloc (Obj.cells #[.int .u8 (Ev.lev zs)] 5) := ⟨_, rfl⟩
     rw [← hgz] at HP9 ⊢
     rw [← hW7] at S HP9 ⊢
     clear hW7 hgz hlw
     have hlw := S.lt
     refine tk1 (i := 5) (v := ?_) rfl (Or.inl ⟨by rfl, ?_⟩) qH ?_
     rotate_left
     · (intro w hSw; (try dsimp only at hSw); go_simp; try with_reducible rfl)
     try simp only [ss9]
     refine wpAnyH_ready (rs := [6]) (by kernel_rfl) (by simp) ?_
     refine AllReadyH.cons (o := _) rfl (fun K hK => ?_) ?_
     rotate_left
     · exact AllReadyH.nil
     go_simp
     refine (k6.out (some ⟨gz, 0, none⟩) _).mono ?_
     rintro e w8 ⟨g9, rfl, hg9, BK9, hb1⟩
     rw [← HQ9.out]
     rw [← HK9.out] at BK9
     replace BK9 := H9 BK9
     replace S := S.later hb1
     replace HP9 := H9 (HP9.out.chg (T := []) (Chg.of_below hb1) (by simp))
     clear hb1
     refine hK.out _ _ ?_ (fun qH => ?_)
     · (try dsimp only)
       all_goals trivial
     clear hK K
     try simp only [ss9]
     refine tk1 (i := 7) (v := ?_) rfl (Or.inl ⟨by rfl, ?_⟩) qH ?_
     rotate_left
     · (intro w hSw; (try dsimp only at hSw); go_simp; try with_reducible rfl)
     try simp only [ss9]
     refine tk1 (i := 8) (v := ?_) rfl (Or.inl ⟨by rfl, ?_⟩) qH ?_
     rotate_left
     · (intro w hSw; (try dsimp only at hSw); go_simp; try with_reducible rfl)
     try simp only [ss9]
     refine tk1 (i := 9) (v := ?_) rfl (Or.inl ⟨by rfl, ?_⟩) qH ?_
     rotate_left
     · (intro w hSw; (try dsimp only at hSw); go_simp; try with_reducible rfl)
     try simp only [ss9]
     refine wpAnyH_ready (rs := [10]) (by kernel_rfl) (by simp) ?_
     refine AllReadyH.cons (o := _) rfl (fun K hK => ?_) AllReadyH.nil
     refine zan rfl 48 (.tmp 2) (.tmp 102) rfl w.heap.size 0 rfl 48 (PL { p with time := (p.time + 160) % 4294967296, below := 10, mrk := true } A n c) S.b0 (PL q9 A n c) rfl zah (Nat.le_refl 48) rfl (PL q9 A n c) rfl ?_
     intro WG BG OG
     replace S := S.over OG BG
     replace BK9 := H9 (OG.blk BK9.out (by omega))
     replace HP9 := H9 (HP9.out.chg (Chg.of_only OG (S := [w.heap.size]) (by simp)) (by simp))
     refine hK.out _ _ trivial (fun qH => ?_)
     clear hK K BG OG
     try simp only [ss9]
     refine tk1 (i := 11) (v := ?_) rfl (Or.inl ⟨by rfl, ?_⟩) qH ?_
     rotate_left
     · (intro w hSw; (try dsimp only at hSw); go_simp; try with_reducible rfl)
     try simp only [ss9]
     refine wpAnyH_done (by kernel_rfl) ?_ _
     have K9 := H9 (show PkS WG 0 [w.heap.size + 1, w.heap.size] (some ⟨g9, 0, none⟩) [⟨k9, some ⟨gz, 0, none⟩, 1⟩] from PkS.blk BK9.out (by simp; omega) (by rw [H9P.out]; exact HP9.out))
     go_wp2_with (first | (refine zae rfl 48 (.tmp 2) rfl (w.heap.size) 0 rfl 48 (PL q9 A n c) S.b0 48 _ Tryz.underlying48 zah (show 0 + 48 ≤ 48 by decide) (PA q9 A n c) (by rfl) rfl ?_) | (refine zaf rfl 48 (.tmp 4) (.tmp 104) rfl (w.heap.size + 1) 0 rfl 48 (PL Sb.Pt.zero none 0 0) S.b1 (PL q9 A n c) rfl zah (show 0 + 48 ≤ 48 by decide) rfl (PL q9 A n c) rfl ?_; intro WH BH OH) | fail)
     exact bodyPost_ret (v := .tuple #[.agg (PA q9 A n c), .slice (some ⟨g9, 0, none⟩) 1 1, .int .u8 0]) (zao Tryz.results24 rfl (PB.load BH) rfl rfl) rfl ⟨A, n, c, _, 1, [⟨k9, some ⟨gz, 0, none⟩, 1⟩], rfl, rfl, C.pc.pw (OH.bel S.u (by omega)) H9J.out, (K9.out.chg (Chg.of_only OH (S := [w.heap.size + 1]) (by simp)) (by simp)).rows, OH.bel S.u (by omega)⟩
   · go_simp
     refine hK.out _ _ trivial (fun qH => ?_)
     clear hK K
     try simp only [ss9]
     have hlw := S.lt
     have HP9 : Hid (IntsAv (w6.alloc (Obj.cells #[.int .u8 (Ev.lev zs)] 5)) [w.heap.size + 1, w.heap.size] .u8 (some ⟨w6.heap.size, 0, none⟩) [Ev.lev zs]) := H9 ⟨IntsAt.lit0 w6 5 .u8 [Ev.lev zs] [.int .u8 (Ev.lev zs)] rfl, fun _ b off e hb => by injection e with e; injection e with e1 _; simp at hb; omega⟩
     replace S := S.push (Obj.cells #[.int .u8 (Ev.lev zs)] 5)
     obtain ⟨gz, hgz⟩ : ∃ g, g = w6.heap.size := ⟨_, rfl⟩
     obtain ⟨W7, hW7⟩ : ∃ V, V = w6.alloc (Obj.cells #[.int .u8 (Ev.lev zs)] 5) := ⟨_, rfl⟩
     rw [← hgz] at HP9 ⊢
     rw [← hW7] at S HP9 ⊢
     clear hW7 hgz hlw
     have hlw := S.lt
     refine tk1 (i := 5) (v := ?_) rfl (Or.inl ⟨by rfl, ?_⟩) qH ?_
     rotate_left
     · (intro w hSw; (try dsimp only at hSw); go_simp; try with_reducible rfl)
     try simp only [ss9]
     refine wpAnyH_ready (rs := [0]) (by kernel_rfl) (by simp) ?_
     refine AllReadyH.cons (o := _) rfl (fun K hK => ?_) AllReadyH.nil
     refine zet rfl (zau (S := fun x => x = W7) rfl 48 (.tmp 2) rfl w.heap.size 0 rfl 48 (PL { p with time := (p.time + 160) % 4294967296, below := 10, mrk := true } A n c) (fun x hx => by rw [hx]; exact S.b0) 48 _ Tryz.underlying48 zah (Nat.le_refl 48) (PA { p with time := (p.time + 160) % 4294967296, below := 10, mrk := true } A n c) (by rfl) rfl) rfl ?_
     refine hK.out _ _ trivial (fun qH => ?_)
     clear hK K
     try simp only [ss9]
     refine wpAnyH_ready (rs := [6]) (by kernel_rfl) (by simp) ?_
     refine AllReadyH.cons (o := _) rfl (fun K hK => ?_) ?_
     rotate_left
     · exact AllReadyH.nil
     go_simp
     refine (k6.out (some ⟨gz, 0, none⟩) _).mono ?_
     rintro e w8 ⟨g9, rfl, hg9, BK9, hb1⟩
     rw [← HQ9.out]
     rw [← HK9.out] at BK9
     replace BK9 := H9 BK9
     replace S := S.later hb1
     replace HP9 := H9 (HP9.out.chg (T := []) (Chg.of_below hb1) (by simp))
     clear hb1
     refine hK.out _ _ ?_ (fun qH => ?_)
     · (try dsimp only)
       all_goals trivial
     clear hK K
     try simp only [ss9]
     refine tk1 (i := 7) (v := ?_) rfl (Or.inl ⟨by rfl, ?_⟩) qH ?_
     rotate_left
     · (intro w hSw; (try dsimp only at hSw); go_simp; try with_reducible rfl)
     try simp only [ss9]
     refine tk1 (i := 8) (v := ?_) rfl (Or.inl ⟨by rfl, ?_⟩) qH ?_
     rotate_left
     · (intro w hSw; (try dsimp only at hSw); go_simp; try with_reducible rfl)
     try simp only [ss9]
     refine tk1 (i := 9) (v := ?_) rfl (Or.inl ⟨by rfl, ?_⟩) qH ?_
     rotate_left
     · (intro w hSw; (try dsimp only at hSw); go_simp; try with_reducible rfl)
     try simp only [ss9]
     refine wpAnyH_ready (rs := [10]) (by kernel_rfl) (by simp) ?_
     refine AllReadyH.cons (o := _) rfl (fun K hK => ?_) AllReadyH.nil
     refine zan rfl 48 (.tmp 2) (.tmp 102) rfl w.heap.size 0 rfl 48 (PL { p with time := (p.time + 160) % 4294967296, below := 10, mrk := true } A n c) S.b0 (PL q9 A n c) rfl zah (Nat.le_refl 48) rfl (PL q9 A n c) rfl ?_
     intro WG BG OG
     replace S := S.over OG BG
     replace BK9 := H9 (OG.blk BK9.out (by omega))
     replace HP9 := H9 (HP9.out.chg (Chg.of_only OG (S := [w.heap.size]) (by simp)) (by simp))
     refine hK.out _ _ trivial (fun qH => ?_)
     clear hK K BG OG
     try simp only [ss9]
     refine tk1 (i := 11) (v := ?_) rfl (Or.inl ⟨by rfl, ?_⟩) qH ?_
     rotate_left
     · (intro w hSw; (try dsimp only at hSw); go_simp; try with_reducible rfl)
     try simp only [ss9]
     refine wpAnyH_done (by kernel_rfl) ?_ _
     have K9 := H9 (show PkS WG 0 [w.heap.size + 1, w.heap.size] (some ⟨g9, 0, none⟩) [⟨k9, some ⟨gz, 0, none⟩, 1⟩] from PkS.blk BK9.out (by simp; omega) (by rw [H9P.out]; exact HP9.out))
     go_wp2_with (first | (refine zae rfl 48 (.tmp 2) rfl (w.heap.size) 0 rfl 48 (PL q9 A n c) S.b0 48 _ Tryz.underlying48 zah (show 0 + 48 ≤ 48 by decide) (PA q9 A n c) (by rfl) rfl ?_) | (refine zaf rfl 48 (.tmp 4) (.tmp 104) rfl (w.heap.size + 1) 0 rfl 48 (PL Sb.Pt.zero none 0 0) S.b1 (PL q9 A n c) rfl zah (show 0 + 48 ≤ 48 by decide) rfl (PL q9 A n c) rfl ?_; intro WH BH OH) | fail)
     exact bodyPost_ret (v := .tuple #[.agg (PA q9 A n c), .slice (some ⟨g9, 0, none⟩) 1 1, .int .u8 0]) (zao Tryz.results24 rfl (PB.load BH) rfl rfl) rfl ⟨A, n, c, _, 1, [⟨k9, some ⟨gz, 0, none⟩, 1⟩], rfl, rfl, C.pc.pw (OH.bel S.u (by omega)) H9J.out, (K9.out.chg (Chg.of_only OH (S := [w.heap.size + 1]) (by simp)) (by simp)).rows, OH.bel S.u (by omega)⟩
end Go.Proofs.YtahbecinkciahaaGreat
namespace Go.Proofs.YtahbecinkciahaaGreat
open Go.RowKit
theorem zph (k : Int) (hk : speechB k = true) (v i : Int) (hv : Dlt.valid v i = true) (zs : List Int) (hl : zs.length = 160) : Sb.encE k v i zs = ((Sb.enc k (v, i) zs).1, (Sb.enc k (v, i) zs).2, 0) := by
 rcases zbq.1 hk with rfl | rfl | rfl
 · rfl
 · rfl
 · unfold Sb.encE Dlt.packR
   rw [if_neg (by decide), if_neg (by decide), if_pos hv, if_pos (by omega)]
   rfl
end Go.Proofs.YtahbecinkciahaaGreat
namespace Go.Proofs.YtahbecinkciahaaGreat
attribute [local go_sem ↓] zac zad
attribute [local go_sem] zab zag
open Go.RowKit
theorem zsz {w W : World} {p : Sb.Pt} {A : Option Addr} {l : List TW} {n c : Nat} {ZA : Option Addr} {zs : List Int} {zc : Nat} (C : SC w p A l n c ZA zs zc) (S : RB w W { p with time := (p.time + 160) % 4294967296 } A n c) (hon : p.tn.on = false) (hen : p.tn.ends = 0) (hqu : ¬Ev.quiet p.below zs = 10) (a : Act) (ha : Fr 134 [(1, .slice ZA 160 zc), (2, .pointer (some ⟨w.heap.size, 0, none⟩)), (4, .pointer (some ⟨w.heap.size + 1, 0, none⟩)), (7, .int .u32 p.time), (8, .slice none 0 0)] a) : firstWp Tryz.prog rs6_code (bodyPost Tryz.prog Tryz.f24 (RSendR ((Sb.emit { p with time := (p.time + 160) % 4294967296, below := Ev.quiet p.below zs, cv := (Sb.enc p.codec (p.cv, p.ci) zs).2.1, ci := (Sb.enc p.codec (p.cv, p.ci) zs).2.2, mrk := false } p.codec p.time p.mrk (Sb.enc p.codec (p.cv, p.ci) zs).1).1, [(Sb.emit { p with time := (p.time + 160) % 4294967296, below := Ev.quiet p.below zs, cv := (Sb.enc p.codec (p.cv, p.ci) zs).2.1, ci := (Sb.enc p.codec (p.cv, p.ci) zs).2.2, mrk := false } p.codec p.time p.mrk (Sb.enc p.codec (p.cv, p.ci) zs).1).2], 0) w)) a W := by
 obtain ⟨s, rfl, e1, e2, e4, e7, e8, _⟩ := ha
 rw [r134, e1, e2, e4, e7, e8]
 clear e1 e2 e4 e7 e8
 have k3 : ∀ W : World, IntsAt W W.heap.size .i16 ZA zs → Calls Tryz.prog 79 #[.agg #[.int .i64 p.below], .slice ZA 160 zc] W fun e w' => e = .returned (.tuple #[.agg #[.int .i64 (Ev.quiet p.below zs)], .bool (Ev.quiet p.below zs == 10)]) ∧ Below W.heap.size W w' := fun W hW => by
  have h := zej p.below ZA zs zc W C.wf.below.1 C.wf.below.2 hW C.zb (by have := C.zl; omega)
  rwa [C.zl] at h
 have hqb : (Ev.quiet p.below zs == 10) = false := by simpa using hqu
 rw [hqb] at k3
 have hsp : speechB p.codec = true ∧ Dlt.valid p.cv p.ci = true := by
  have hv := C.v
  unfold Sb.Pt.valid at hv
  simp only [Bool.and_eq_true] at hv
  exact ⟨hv.1.1.1.1, hv.1.1.1.2⟩
 have k7 : ∀ W : World, IntsAt W W.heap.size .i16 ZA zs → Calls Tryz.prog 31 #[.int .u8 p.codec, .slice ZA 160 zc, .agg #[.int .i64 p.cv, .int .i64 p.ci]] W (REncR ((Sb.enc p.codec (p.cv, p.ci) zs).1, (Sb.enc p.codec (p.cv, p.ci) zs).2, 0) W) := fun W hW => by
  have h := zpt p.codec hsp.1 p.cv p.ci ZA zs zc W hW C.zb (by have := C.zl; omega)
  rw [zph p.codec hsp.1 p.cv p.ci hsp.2 zs C.zl] at h
  rwa [C.zl] at h
 have hel : 3 ≤ (Sb.enc p.codec (p.cv, p.ci) zs).1.length ∧ (Sb.enc p.codec (p.cv, p.ci) zs).1.length ≤ 100000 := by
  have hz := C.zl
  rcases zbq.1 hsp.1 with h | h | h
  all_goals rw [h]; unfold Sb.enc
  · rw [if_pos rfl]; simp [hz]
  · rw [if_neg (by decide), if_pos rfl]; simp [hz]
  · rw [if_neg (by decide), if_neg (by decide)]
    have := Dlt.packB_len (p.cv, p.ci) zs
    show 3 ≤ (Dlt.packB (p.cv, p.ci) zs).length ∧ (Dlt.packB (p.cv, p.ci) zs).length ≤ 100000
    omega
 have hqn : -9223372036854775808 ≤ Ev.quiet p.below zs ∧ Ev.quiet p.below zs ≤ 9223372036854775807 := by unfold Ev.quiet; split <;> omega
 generalize Sb.enc p.codec (p.cv, p.ci) zs = EN at *
 obtain ⟨bs, v2, i2⟩ := EN
 dsimp only at k7 hel ⊢
 unfold REncR at k7
 generalize Ev.quiet p.below zs = QN at *
 have HW5 := H9 (show ({ p with time := (p.time + 160) % 4294967296, below := QN, cv := v2, ci := i2, mrk := false } : Sb.Pt).wf from ⟨C.wf.codec, C.wf.src, C.wf.seq, by dsimp only; omega, hqn, C.wf.tvol, C.wf.tcode, C.wf.tst, C.wf.seed, C.wf.pk, C.wf.oc⟩)
 have k6 := H9 fun (A8 : Option Addr) (c8 : Nat) (V : World) => zes (w := V) (p := { p with time := (p.time + 160) % 4294967296, below := QN, cv := v2, ci := i2, mrk := false }) (A := A) (n := n) (c := c) rfl HW5.out p.codec p.time p.mrk A8 bs c8 hel.2
 have HEL := H9 hel.1
 replace k3 := H9 k3
 replace k7 := H9 k7
 obtain ⟨q9, hq9⟩ : ∃ q, q = (Sb.emit { p with time := (p.time + 160) % 4294967296, below := QN, cv := v2, ci := i2, mrk := false } p.codec p.time p.mrk bs).1 := ⟨_, rfl⟩
 obtain ⟨k9, hk9⟩ : ∃ k, k = (Sb.emit { p with time := (p.time + 160) % 4294967296, below := QN, cv := v2, ci := i2, mrk := false } p.codec p.time p.mrk bs).2 := ⟨_, rfl⟩
 rw [← hq9, ← hk9]
 have HQ9 := H9 hq9
 have HK9 := H9 hk9
 have H9J := H9 (show q9.jt = p.jt by rw [hq9]; rfl)
 have H9P := H9 (show k9.pl = bs by rw [hk9]; rfl)
 clear hq9 hk9 hqu hqb hsp hel hqn
 refine zcm ?_
 intro _ _ _ _
 have x5 := S.cell 5 _ rfl
 have x8 := S.cell 8 _ rfl
 have x13 := S.cell 13 _ rfl
 dsimp only at x8 x13 x5
 rw [hon] at x8
 rw [hen] at x13
 go_upto_region 15 with fail
 clear x8 x13
 go_wp2_with (first | (refine zae rfl 33 (.tmp 82) rfl (w.heap.size) 5 rfl 48 (PL { p with time := (p.time + 160) % 4294967296 } A n c) S.b0 1 _ Tryz.underlying33 zbh (show 5 + 1 ≤ 48 by decide) (#[.int .i64 p.below]) (by rfl) rfl ?_) | fail)
 refine (k3.out _ (C.z.later S.u)).mono ?_
 rintro e w4 ⟨rfl, hb1⟩
 replace S := S.later hb1
 clear hb1 k3 x5
 have BQ := H9 (Blk.new w4 33 #[.int .i64 QN])
 have hbl := S.lt
 replace S := S.push (.cells #[.int .i64 QN] 33)
 obtain ⟨gq, hgq⟩ : ∃ g, g = w4.heap.size := ⟨_, rfl⟩
 obtain ⟨W5, hW5⟩ : ∃ W, W = w4.alloc (Obj.cells #[.int .i64 QN] 33) := ⟨_, rfl⟩
 rw [← hgq, ← hW5] at BQ
 rw [← hgq] at hbl
 go_upto_region 16 with fail
 rw [← hgq]
 rw [← hW5] at S ⊢
 clear hW5 hgq
 go_upto_region 17 with (first | (refine zae rfl 33 (.tmp 16) rfl (gq) 0 rfl 33 ([.int .i64 QN]) BQ.out 1 _ Tryz.underlying33 zbh (show 0 + 1 ≤ 1 by decide) (#[.int .i64 QN]) (by rfl) rfl ?_) | (refine zaf rfl 33 (.tmp 89) (.tmp 88) rfl (w.heap.size) 5 rfl 48 (PL { p with time := (p.time + 160) % 4294967296 } A n c) S.b0 ([.int .i64 QN]) rfl zbh (show 5 + 1 ≤ 48 by decide) rfl (PL { p with time := (p.time + 160) % 4294967296, below := QN } A n c) rfl ?_; intro WG BG OG) | fail)
 replace S := S.over OG BG
 clear BG OG BQ
 have x0 := S.cell 0 _ rfl
 go_upto_region 22 with fail
 go_wp2_with (first | (refine zae rfl 24 (.tmp 110) rfl (w.heap.size) 6 rfl 48 (PL { p with time := (p.time + 160) % 4294967296, below := QN } A n c) S.b0 2 _ Tryz.underlying24 zdp (show 6 + 2 ≤ 48 by decide) (#[.int .i64 p.cv, .int .i64 p.ci]) (by rfl) rfl ?_) | fail)
 refine (k7.out _ (C.z.later S.u)).mono ?_
 rintro e w6 ⟨A8, c8, rfl, hI8, hb1⟩
 replace S := S.later hb1
 clear hb1 x0 k7
 have HP9 := H9 (S.ints hI8 HEL.out)
 have hL6 := S.lt
 have BD := H9 (Blk.new w6 24 #[.int .i64 v2, .int .i64 i2])
 replace S := S.push (.cells #[.int .i64 v2, .int .i64 i2] 24)
 replace HP9 := H9 (HP9.out.chg (Chg.alloc [] w6 (.cells #[.int .i64 v2, .int .i64 i2] 24)) (by simp))
 clear hI8
 obtain ⟨gd, hgd⟩ : ∃ g, g = w6.heap.size := ⟨_, rfl⟩
 obtain ⟨W7, hW7⟩ : ∃ V, V = w6.alloc (.cells #[.int .i64 v2, .int .i64 i2] 24) := ⟨_, rfl⟩
 rw [← hgd, ← hW7] at BD
 rw [← hgd] at hL6
 rw [← hW7] at HP9
 go_upto_region 23 with fail
 rw [← hgd]
 rw [← hW7] at S ⊢
 clear hW7 hgd
 have x0 := S.cell 0 _ rfl
 have x4 := S.cell 4 _ rfl
 have hL7 := S.lt
 have hL8 := BD.out.lt
 have BP := H9 (Blk.new W7 51 #[.bool p.mrk, .int .u8 p.codec, .int .u16 0, .int .u32 p.time, .int .u32 0, .slice none 0 0, .bool false, .int .u16 0, .slice none 0 0, .slice A8 bs.length c8, .int .i64 0])
 replace S := S.push (.cells #[.bool p.mrk, .int .u8 p.codec, .int .u16 0, .int .u32 p.time, .int .u32 0, .slice none 0 0, .bool false, .int .u16 0, .slice none 0 0, .slice A8 bs.length c8, .int .i64 0] 51)
 replace BD := H9 (BD.out.push (.cells #[.bool p.mrk, .int .u8 p.codec, .int .u16 0, .int .u32 p.time, .int .u32 0, .slice none 0 0, .bool false, .int .u16 0, .slice none 0 0, .slice A8 bs.length c8, .int .i64 0] 51))
 replace HP9 := H9 (HP9.out.chg (Chg.alloc [] W7 (.cells #[.bool p.mrk, .int .u8 p.codec, .int .u16 0, .int .u32 p.time, .int .u32 0, .slice none 0 0, .bool false, .int .u16 0, .slice none 0 0, .slice A8 bs.length c8, .int .i64 0] 51)) (by simp))
 obtain ⟨gp, hgp⟩ : ∃ g, g = W7.heap.size := ⟨_, rfl⟩
 obtain ⟨W8, hW8⟩ : ∃ V, V = W7.alloc (.cells #[.bool p.mrk, .int .u8 p.codec, .int .u16 0, .int .u32 p.time, .int .u32 0, .slice none 0 0, .bool false, .int .u16 0, .slice none 0 0, .slice A8 bs.length c8, .int .i64 0] 51) := ⟨_, rfl⟩
 rw [← hgp, ← hW8] at BP
 rw [← hgp] at hL7 hL8
 rw [← hW8] at BD HP9
 go_upto_region 24 with fail
 rw [← hgp]
 rw [← hW8] at S ⊢
 clear hW8 hgp x0 x4
 go_upto_region 25 with (first | (refine zae rfl 24 (.tmp 19) rfl (gd) 0 rfl 24 ([.int .i64 v2, .int .i64 i2]) BD.out 2 _ Tryz.underlying24 zdp (show 0 + 2 ≤ 2 by decide) (#[.int .i64 v2, .int .i64 i2]) (by rfl) rfl ?_) | (refine zaf rfl 24 (.tmp 124) (.tmp 123) rfl (w.heap.size) 6 rfl 48 (PL { p with time := (p.time + 160) % 4294967296, below := QN } A n c) S.b0 ([.int .i64 v2, .int .i64 i2]) rfl zdp (show 6 + 2 ≤ 48 by decide) rfl (PL { p with time := (p.time + 160) % 4294967296, below := QN, cv := v2, ci := i2 } A n c) rfl ?_; intro WJ BJ OJ) | fail)
 replace S := S.over OJ BJ
 replace BP := H9 (OJ.blk BP.out (by omega))
 replace HP9 := H9 (HP9.out.chg (Chg.of_only OJ (S := [w.heap.size]) (by simp)) (by simp))
 clear BJ OJ BD
 have x4 := S.cell 4 _ rfl
 have z4 := Blk.frozen S.b0 4
 go_upto_region 26 with fail
 obtain ⟨WH, hV⟩ : ∃ V, V = WJ.setCell ⟨w.heap.size, 4, none⟩ (.bool false) := ⟨_, rfl⟩
 rw [← hV]
 have OV : OnlyB w.heap.size WJ WH := by rw [hV]; exact OnlyB.setCell _ _ _ _
 replace S : RB w WH { p with time := (p.time + 160) % 4294967296, below := QN, cv := v2, ci := i2, mrk := false } A n c := by rw [hV]; exact S.set 4 _ rfl
 replace BP := H9 (OV.blk BP.out (by omega))
 replace HP9 := H9 (HP9.out.chg (Chg.of_only OV (S := [w.heap.size]) (by simp)) (by simp))
 clear hV OV x4 z4
 have hlo := S.lt
 go_wp2_with (first | (refine zae rfl 48 (.tmp 2) rfl (w.heap.size) 0 rfl 48 (PL { p with time := (p.time + 160) % 4294967296, below := QN, cv := v2, ci := i2, mrk := false } A n c) S.b0 48 _ Tryz.underlying48 zah (show 0 + 48 ≤ 48 by decide) (PA { p with time := (p.time + 160) % 4294967296, below := QN, cv := v2, ci := i2, mrk := false } A n c) (by rfl) rfl ?_) | (refine zae rfl 51 (.tmp 21) rfl gp 0 rfl 51 ([.bool p.mrk, .int .u8 p.codec, .int .u16 0, .int .u32 p.time, .int .u32 0, .slice none 0 0, .bool false, .int .u16 0, .slice none 0 0, .slice A8 bs.length c8, .int .i64 0]) BP.out 11 _ Tryz.underlying51 zkc (show 0 + 11 ≤ 11 by decide) (#[.bool p.mrk, .int .u8 p.codec, .int .u16 0, .int .u32 p.time, .int .u32 0, .slice none 0 0, .bool false, .int .u16 0, .slice none 0 0, .slice A8 bs.length c8, .int .i64 0]) (by rfl) rfl ?_) | fail)
 refine (k6.out A8 c8 _).mono ?_
 rintro e w8 ⟨g9, rfl, hg9, BK9, hb1⟩
 rw [← HQ9.out]
 rw [← HK9.out] at BK9
 replace BK9 := H9 BK9
 replace S := S.later hb1
 replace HP9 := H9 (HP9.out.chg (T := []) (Chg.of_below hb1) (by simp))
 clear hb1 BP
 go_upto_region 27 with (first | (refine zaf rfl 48 (.tmp 2) (.tmp 130) rfl (w.heap.size) 0 rfl 48 (PL { p with time := (p.time + 160) % 4294967296, below := QN, cv := v2, ci := i2, mrk := false } A n c) S.b0 (PL q9 A n c) rfl zah (show 0 + 48 ≤ 48 by decide) rfl (PL q9 A n c) rfl ?_; intro WK BK OK) | fail)
 replace S := S.over OK BK
 replace BK9 := H9 (OK.blk BK9.out (by omega))
 replace HP9 := H9 (HP9.out.chg (Chg.of_only OK (S := [w.heap.size]) (by simp)) (by simp))
 clear BK OK
 have K9 := H9 (show PkS WK 0 [w.heap.size + 1, w.heap.size] (some ⟨g9, 0, none⟩) [⟨k9, A8, c8⟩] from PkS.blk BK9.out (by simp; omega) (by rw [H9P.out]; exact HP9.out))
 go_wp2_with (first | (refine zae rfl 48 (.tmp 2) rfl (w.heap.size) 0 rfl 48 (PL q9 A n c) S.b0 48 _ Tryz.underlying48 zah (show 0 + 48 ≤ 48 by decide) (PA q9 A n c) (by rfl) rfl ?_) | (refine zaf rfl 48 (.tmp 4) (.tmp 132) rfl (w.heap.size + 1) 0 rfl 48 (PL Sb.Pt.zero none 0 0) S.b1 (PL q9 A n c) rfl zah (show 0 + 48 ≤ 48 by decide) rfl (PL q9 A n c) rfl ?_; intro WH BH OH) | fail)
 exact bodyPost_ret (v := .tuple #[.agg (PA q9 A n c), .slice (some ⟨g9, 0, none⟩) 1 1, .int .u8 0]) (zao Tryz.results24 rfl (PB.load BH) rfl rfl) rfl ⟨A, n, c, _, 1, [⟨k9, A8, c8⟩], rfl, rfl, C.pc.pw (OH.bel S.u (by omega)) H9J.out, (K9.out.chg (Chg.of_only OH (S := [w.heap.size + 1]) (by simp)) (by simp)).rows, OH.bel S.u (by omega)⟩
theorem znk {w : World} {p : Sb.Pt} {A : Option Addr} {l : List TW} {n c : Nat} {X : Array Value} {ZA : Option Addr} {zn zc : Nat} (C : PC w p A l n c) (hX : X = PA p A n c) (hz : p.valid = false ∨ zn ≠ 160) : Calls Tryz.prog 24 #[.agg X, .slice ZA zn zc] w (RSendR (Sb.Pt.zero, [], 2) w) := by
 have S := RB.new w X hX
 obtain ⟨v, hv⟩ : ∃ v, v = p.valid := ⟨_, rfl⟩
 have k1 := H9 fun (W : World) hW => zch p A l n c (PA p A n c) rfl W C.q C.len C.n5 hW (fun a h => Nat.le_trans (C.pay a h) (by decide)) v hv
 rw [← hv] at hz
 clear hv
 clear hX
 go_enter Tryz.func24, Tryz.ntmps24
 go_upto_region 1 with fail
 change Code.wp _ _ _ _ ((w.alloc (Obj.cells X 48)).alloc (Obj.cells (PA Sb.Pt.zero none 0 0) 48))
 obtain ⟨W, hW⟩ : ∃ W, W = (w.alloc (Obj.cells X 48)).alloc (Obj.cells (PA Sb.Pt.zero none 0 0) 48) := ⟨_, rfl⟩
 rw [← hW] at S ⊢
 clear hW
 go_wp2_with (first | (refine zae rfl 48 (.tmp 2) rfl (w.heap.size) 0 rfl 48 (PL p A n c) S.b0 48 _ Tryz.underlying48 zah (show 0 + 48 ≤ 48 by decide) (PA p A n c) (by rfl) rfl ?_) | fail)
 refine (k1.out _ (C.av.later S.u)).mono ?_
 rintro e w1 ⟨rfl, hb1⟩
 replace S := S.later hb1
 clear hb1 k1
 have hL := S.lt
 cases v
 rotate_left
 · have hz2 : ¬(zn = 160) := by rcases hz with h | h; cases h; exact h
   clear hz
   have hz3 : ¬((zn : Int) = 160) := by omega
   have hz4 : ((zn : Int) != 160) = true := by simpa using hz3
   go_wp2_with (first | (refine zaf rfl 48 (.tmp 4) (.tmp 30) rfl (w.heap.size + 1) 0 rfl 48 (PL Sb.Pt.zero none 0 0) S.b1 (PL Sb.Pt.zero none 0 0) rfl zah (show 0 + 48 ≤ 48 by decide) rfl (PL Sb.Pt.zero none 0 0) rfl ?_; intro WH BH OH) | fail)
   exact bodyPost_ret (v := .tuple #[.agg (PA Sb.Pt.zero none 0 0), .slice none 0 0, .int .u8 2]) (zao Tryz.results24 rfl (PB.load (p := Sb.Pt.zero) (A := none) (n := 0) (c := 0) BH) rfl rfl) rfl ⟨none, 0, 0, none, 0, [], rfl, rfl, PW.zero, Pks.nil, OH.bel S.u (by omega)⟩
 · clear hz
   go_wp2_with (first | (refine zaf rfl 48 (.tmp 4) (.tmp 30) rfl (w.heap.size + 1) 0 rfl 48 (PL Sb.Pt.zero none 0 0) S.b1 (PL Sb.Pt.zero none 0 0) rfl zah (show 0 + 48 ≤ 48 by decide) rfl (PL Sb.Pt.zero none 0 0) rfl ?_; intro WH BH OH) | fail)
   exact bodyPost_ret (v := .tuple #[.agg (PA Sb.Pt.zero none 0 0), .slice none 0 0, .int .u8 2]) (zao Tryz.results24 rfl (PB.load (p := Sb.Pt.zero) (A := none) (n := 0) (c := 0) BH) rfl rfl) rfl ⟨none, 0, 0, none, 0, [], rfl, rfl, PW.zero, Pks.nil, OH.bel S.u (by omega)⟩
theorem zpi {w : World} {p : Sb.Pt} {A : Option Addr} {l : List TW} {n c : Nat} {ZA : Option Addr} {zs : List Int} {zc : Nat} {X : Array Value} (C : SC w p A l n c ZA zs zc) (hX : X = PA p A n c) : Calls Tryz.prog 24 #[.agg X, .slice ZA 160 zc] w (RSendR ((Sb.send0 p zs).1, (Sb.send0 p zs).2, 0) w) := by
 refine znh C hX fun W a S ha => ?_
 unfold Sb.send0 Sb.later
 by_cases hto : p.tn.on = true ∨ p.tn.ends ≠ 0
 · rw [if_pos hto]
   exact zrm C S hto a ha
 rw [if_neg hto]
 have hon : p.tn.on = false := by
  cases h : p.tn.on
  · rfl
  · exact absurd (Or.inl h) hto
 have hen : p.tn.ends = 0 := by
  rcases Classical.em (p.tn.ends = 0) with h | h
  · exact h
  · exact absurd (Or.inr h) hto
 by_cases hqu : Ev.quiet p.below zs = 10
 · rw [if_pos hqu]
   have h := zsy C S hon hen hqu a ha
   by_cases hbe : p.below < 10
   · rw [if_pos hbe] at h ⊢
     exact h
   · rw [if_neg hbe] at h ⊢
     exact h
 · rw [if_neg hqu]
   exact zsz C S hon hen hqu a ha
end Go.Proofs.YtahbecinkciahaaGreat
namespace Go.Proofs.YtahbecinkciahaaGreat
open Go.RowKit
theorem RSendR.of {q : Sb.Pt × List Sb.Pkt} {w : World} {e : Ending} {w' : World} (h : SendR q w e w') : RSendR (q.1, q.2, 0) w e w' := by
 obtain ⟨A, n, c, l, KA, kc, ks, h1, h2, h3, h4, _, _, h7, h8, h9, _⟩ := h
 exact ⟨A, n, c, KA, kc, ks, h1, h2, ⟨l, h3, h4, h7⟩, h8, h9⟩
theorem PC.sc {w : World} {p : Sb.Pt} {A : Option Addr} {l : List TW} {n c : Nat} {ZA : Option Addr} {zs : List Int} {zc : Nat} (C : PC w p A l n c) (hA : IntsAt w w.heap.size .i16 ZA zs) (hz : Within (-32768) 32767 zs) (hl : zs.length = 160) (hv : p.valid = true) : SC w p A l n c ZA zs zc := ⟨C.wf, C.q, C.len, C.n5, C.cap, C.cm, C.av, C.sq, C.pay, hA, hz, hl, hv⟩
theorem zpj {w : World} {p : Sb.Pt} {A : Option Addr} {l : List TW} {n c : Nat} {ZA : Option Addr} {zs : List Int} {zc : Nat} (C : PC w p A l n c) (hA : IntsAt w w.heap.size .i16 ZA zs) (hz : Within (-32768) 32767 zs) : Calls Tryz.prog 23 #[.agg (PA p A n c), .slice ZA zs.length zc] w (RSendR (Sb.send p zs) w) := by
 unfold Sb.send
 by_cases h : p.valid = true ∧ zs.length = 160
 · rw [if_pos h]
   obtain ⟨hv, hl⟩ := h
   rw [hl]
   exact (zrj (C.sc hA hz hl hv) rfl).mono fun e w' h => RSendR.of h
 · rw [if_neg h]
   refine zpe C rfl ?_
   cases hv : p.valid
   · exact .inl rfl
   · exact .inr fun hl => h ⟨hv, hl⟩
theorem znl {w : World} {p : Sb.Pt} {A : Option Addr} {l : List TW} {n c : Nat} {ZA : Option Addr} {zs : List Int} {zc : Nat} (C : PC w p A l n c) (hA : IntsAt w w.heap.size .i16 ZA zs) (hz : Within (-32768) 32767 zs) : Calls Tryz.prog 24 #[.agg (PA p A n c), .slice ZA zs.length zc] w (RSendR (Sb.send p zs) w) := by
 unfold Sb.send
 by_cases h : p.valid = true ∧ zs.length = 160
 · rw [if_pos h]
   obtain ⟨hv, hl⟩ := h
   rw [hl]
   exact zpi (C.sc hA hz hl hv) rfl
 · rw [if_neg h]
   refine znk C rfl ?_
   cases hv : p.valid
   · exact .inl rfl
   · exact .inr fun hl => h ⟨hv, hl⟩
end Go.Proofs.YtahbecinkciahaaGreat
namespace Go.Proofs.YtahbecinkciahaaGreat
attribute [local go_sem ↓] zac zad
attribute [local go_sem] zab zag
open Go.RowKit
theorem zio (mk : Bool) (ty sq ti so : Int) (mx : List Int) (ex : Bool) (ek : Int) (et pl : List Int) (pad : Int) (M1 M2 E1 E2 P1 P2 : Option Addr) (c1 c2 d1 d2 f1 f2 : Nat) (w : World)
 (hM1 : IntsAt w w.heap.size .u32 M1 mx) (hM2 : IntsAt w w.heap.size .u32 M2 mx) (hE1 : IntsAt w w.heap.size .u8 E1 et) (hE2 : IntsAt w w.heap.size .u8 E2 et) (hP1 : IntsAt w w.heap.size .u8 P1 pl) (hP2 : IntsAt w w.heap.size .u8 P2 pl) (hm : mx.length ≤ 100000) :
 Calls Tryz.prog 81 #[.agg #[.bool mk, .int .u8 ty, .int .u16 sq, .int .u32 ti, .int .u32 so, .slice M1 mx.length c1, .bool ex, .int .u16 ek, .slice E1 et.length d1, .slice P1 pl.length f1, .int .i64 pad], .agg #[.bool mk, .int .u8 ty, .int .u16 sq, .int .u32 ti, .int .u32 so, .slice M2 mx.length c2, .bool ex, .int .u16 ek, .slice E2 et.length d2, .slice P2 pl.length f2, .int .i64 pad]] w fun e w' => e = .returned (.bool true) ∧ Below w.heap.size w w' := by
 have hb : ∀ {k : IntKind} {A : Option Addr} {l : List Int}, IntsAt w w.heap.size k A l → IntsAt ((w.alloc (.cells #[.bool mk, .int .u8 ty, .int .u16 sq, .int .u32 ti, .int .u32 so, .slice M1 mx.length c1, .bool ex, .int .u16 ek, .slice E1 et.length d1, .slice P1 pl.length f1, .int .i64 pad] 51)).alloc (.cells #[.bool mk, .int .u8 ty, .int .u16 sq, .int .u32 ti, .int .u32 so, .slice M2 mx.length c2, .bool ex, .int .u16 ek, .slice E2 et.length d2, .slice P2 pl.length f2, .int .i64 pad] 51)) ((w.alloc (.cells #[.bool mk, .int .u8 ty, .int .u16 sq, .int .u32 ti, .int .u32 so, .slice M1 mx.length c1, .bool ex, .int .u16 ek, .slice E1 et.length d1, .slice P1 pl.length f1, .int .i64 pad] 51)).alloc (.cells #[.bool mk, .int .u8 ty, .int .u16 sq, .int .u32 ti, .int .u32 so, .slice M2 mx.length c2, .bool ex, .int .u16 ek, .slice E2 et.length d2, .slice P2 pl.length f2, .int .i64 pad] 51)).heap.size k A l := fun h => (h.push _).push _
 have v1 := zaz (hb hE1) 22 9 5 Tryz.underlying22 Tryz.underlying5 Tryz.underlying9 et.length d1 rfl
 have v2 := zaz (hb hE2) 22 9 5 Tryz.underlying22 Tryz.underlying5 Tryz.underlying9 et.length d2 rfl
 have v3 := zaz (hb hP1) 22 9 5 Tryz.underlying22 Tryz.underlying5 Tryz.underlying9 pl.length f1 rfl
 have v4 := zaz (hb hP2) 22 9 5 Tryz.underlying22 Tryz.underlying5 Tryz.underlying9 pl.length f2 rfl
 have HM1 := H9 hM1
 have HM2 := H9 hM2
 have U := H9 ((Bel.push (Bel.push (Bel.refl w) (.cells #[.bool mk, .int .u8 ty, .int .u16 sq, .int .u32 ti, .int .u32 so, .slice M1 mx.length c1, .bool ex, .int .u16 ek, .slice E1 et.length d1, .slice P1 pl.length f1, .int .i64 pad] 51)) (.cells #[.bool mk, .int .u8 ty, .int .u16 sq, .int .u32 ti, .int .u32 so, .slice M2 mx.length c2, .bool ex, .int .u16 ek, .slice E2 et.length d2, .slice P2 pl.length f2, .int .i64 pad] 51)))
 have B1 := H9 ((Blk.new w 51 #[.bool mk, .int .u8 ty, .int .u16 sq, .int .u32 ti, .int .u32 so, .slice M1 mx.length c1, .bool ex, .int .u16 ek, .slice E1 et.length d1, .slice P1 pl.length f1, .int .i64 pad]).push (.cells #[.bool mk, .int .u8 ty, .int .u16 sq, .int .u32 ti, .int .u32 so, .slice M2 mx.length c2, .bool ex, .int .u16 ek, .slice E2 et.length d2, .slice P2 pl.length f2, .int .i64 pad] 51))
 have B2 := H9 (Blk.new1 w (.cells #[.bool mk, .int .u8 ty, .int .u16 sq, .int .u32 ti, .int .u32 so, .slice M1 mx.length c1, .bool ex, .int .u16 ek, .slice E1 et.length d1, .slice P1 pl.length f1, .int .i64 pad] 51) 51 #[.bool mk, .int .u8 ty, .int .u16 sq, .int .u32 ti, .int .u32 so, .slice M2 mx.length c2, .bool ex, .int .u16 ek, .slice E2 et.length d2, .slice P2 pl.length f2, .int .i64 pad])
 clear hb hM1 hM2 hE1 hE2 hP1 hP2
 go_enter Tryz.func81, Tryz.ntmps81
 go_wp2_with fail
 clear v1 v2 v3 v4
 go_loopg [5] mx.length (fun gk i wr => ∃ k : Nat, gk + k = mx.length ∧ i = .int .i64 k ∧ Hid (Blk wr w.heap.size 51 #[.bool mk, .int .u8 ty, .int .u16 sq, .int .u32 ti, .int .u32 so, .slice M1 mx.length c1, .bool ex, .int .u16 ek, .slice E1 et.length d1, .slice P1 pl.length f1, .int .i64 pad]) ∧ Hid (Blk wr (w.heap.size + 1) 51 #[.bool mk, .int .u8 ty, .int .u16 sq, .int .u32 ti, .int .u32 so, .slice M2 mx.length c2, .bool ex, .int .u16 ek, .slice E2 et.length d2, .slice P2 pl.length f2, .int .i64 pad]) ∧ Hid (Bel w wr))
 case atStart => exact ⟨0, rfl, rfl, B1, B2, U⟩
 case round =>
  clear B1 B2 U
  obtain ⟨k, hgk, rfl, B1, B2, U⟩ := hrel
  have hi0 : (0 : Int) ≤ (k : Int) := by omega
  have x5 := B1.out.at 5 _ rfl
  have y5 := B2.out.at 5 _ rfl
  by_cases hlt : k < mx.length
  rotate_left
  · obtain rfl : k = mx.length := by omega
    have hi1 : (mx.length : Int) ≤ (mx.length : Int) := Int.le_refl _
    go_wp2_with fail
    go_ret
    exact ⟨rfl, U.out⟩
  have hi1 : (k : Int) < (mx.length : Int) := by omega
  obtain ⟨b, off, rfl, hbB, qc⟩ := (HM1.out.below U.out) (by omega)
  obtain ⟨b', off', rfl, hbB', hcell'⟩ := (HM2.out.below U.out) (by omega)
  have e0 := qc k hlt
  have e1 := hcell' k hlt
  generalize mx.getD k 0 = z at *
  clear qc hcell'
  go_wp2_with fail
  go_quiet (fail)
  go_wp2_with fail
  go_roundg (gk - 1)
  case measure => omega
  case rel => exact ⟨k + 1, by omega, by go_num, H9 (B1.out.drewN _), H9 (B2.out.drewN _), H9 (U.out.drewN _)⟩
theorem zrn (k : Sb.Pkt) (B1 B2 : Option Addr) (c1 c2 : Nat) (w : World) (hA : IntsAt w w.heap.size .u8 B1 k.pl) (hB : IntsAt w w.heap.size .u8 B2 k.pl) : Calls Tryz.prog 81 #[.agg (pktRow k B1 c1).toArray, .agg (pktRow k B2 c2).toArray] w fun e w' => e = .returned (.bool true) ∧ Below w.heap.size w w' :=
 zio k.mrk k.ty k.sq k.ti k.src [] false 0 [] k.pl 0 none none none none B1 B2 0 0 0 0 c1 c2 w (fun h => absurd h (by simp)) (fun h => absurd h (by simp)) (fun h => absurd h (by simp)) (fun h => absurd h (by simp)) hA hB (by simp)
theorem TK.same {l1 l2 : List TK} (h : l1.map TK.k = l2.map TK.k) {k : Nat} {a b : TK} (ha : l1[k]? = some a) (hb : l2[k]? = some b) : a.k = b.k := by
 have h1 := congrArg (fun l => l[k]?) h
 simp only [List.getElem?_map, ha, hb, Option.map] at h1
 injection h1
theorem zta {w : World} {B : Nat} {A : Option Addr} {l : List TK} (h : RowsAt w B 11 TK.row A l) {k : Nat} {a : TK} (ha : l[k]? = some a) : ∃ b off, A = some ⟨b, off, none⟩ ∧ b < B ∧ ∀ j v, (pktRow a.k a.B a.c)[j]? = some v → w.cell? ⟨b, off + k * 11 + j, none⟩ = some v := by
 obtain ⟨b, off, e, hb, hc⟩ := h (by have := (List.getElem?_eq_some_iff.1 ha).1; omega)
 exact ⟨b, off, e, hb, fun j v hv => hc k a ha j v hv⟩
theorem zip (A B : Option Addr) (l1 l2 : List TK) (n m c d : Nat) (hn : l1.length = n) (hm : l2.length = m) (h9 : n ≤ 100000) (h : l1.map TK.k = l2.map TK.k) (w : World) (hA : Pks w w.heap.size A l1) (hB : Pks w w.heap.size B l2) : Calls Tryz.prog 25 #[.slice A n c, .slice B m d] w fun e w' => e = .returned (.bool true) ∧ Below w.heap.size w w' := by
 obtain rfl : n = m := by have h := congrArg List.length h; simp at h; omega
 have HH := H9 h
 have HA := H9 hA
 have HB := H9 hB
 clear h hA hB
 go_enter Tryz.func25, Tryz.ntmps25
 go_wp2
 go_loopg [5] n (fun gk i wr => ∃ k : Nat, gk + k = n ∧ i = .int .i64 k ∧ Hid (Below w.heap.size w wr))
 case atStart => exact ⟨0, rfl, rfl, H9 (Below.refl _ _)⟩
 case round =>
  obtain ⟨k, hgk, rfl, U⟩ := hrel
  have hi0 : (0 : Int) ≤ (k : Int) := by omega
  by_cases hk : k < n
  rotate_left
  · obtain rfl : k = n := by omega
    have hi1 : (k : Int) ≤ (k : Int) := Int.le_refl _
    go_wp2
    go_ret
    exact ⟨rfl, U.out⟩
  have hi1 : (k : Int) < (n : Int) := by omega
  obtain ⟨a, ha⟩ : ∃ a, l1[k]? = some a := ⟨_, List.getElem?_eq_getElem (by omega)⟩
  obtain ⟨b, hb⟩ : ∃ b, l2[k]? = some b := ⟨_, List.getElem?_eq_getElem (by omega)⟩
  have hab := TK.same HH.out ha hb
  obtain ⟨b1, o1, rfl, hb1, xx⟩ := zta (HA.out.1.keep (fun p hp => U.out.cell hp)) ha
  obtain ⟨b2, o2, rfl, hb2, yy⟩ := zta (HB.out.1.keep (fun p hp => U.out.cell hp)) hb
  have IA := H9 (((HA.out.2 a (List.mem_of_getElem? ha)).keep (w' := wr) (fun p hp => U.out.cell hp)).more U.out.size)
  have IB := H9 (((HB.out.2 b (List.mem_of_getElem? hb)).keep (w' := wr) (fun p hp => U.out.cell hp)).more U.out.size)
  obtain ⟨kk, S1, c1⟩ := a
  obtain ⟨kk2, S2, c2⟩ := b
  obtain rfl : kk = kk2 := hab
  have k1 := fun (W : World) hA hB => zrn kk S1 S2 c1 c2 W hA hB
  obtain ⟨mk, ty, sq, ti, sr, pl⟩ := kk
  simp only at IA IB
  unfold pktRow at k1
  dsimp only at k1
  replace k1 := H9 k1
  have x0 := xx 0 _ rfl
  have x1 := xx 1 _ rfl
  have x2 := xx 2 _ rfl
  have x3 := xx 3 _ rfl
  have x4 := xx 4 _ rfl
  have x5 := xx 5 _ rfl
  have x6 := xx 6 _ rfl
  have x7 := xx 7 _ rfl
  have x8 := xx 8 _ rfl
  have x9 := xx 9 _ rfl
  have x10 := xx 10 _ rfl
  have y0 := yy 0 _ rfl
  have y1 := yy 1 _ rfl
  have y2 := yy 2 _ rfl
  have y3 := yy 3 _ rfl
  have y4 := yy 4 _ rfl
  have y5 := yy 5 _ rfl
  have y6 := yy 6 _ rfl
  have y7 := yy 7 _ rfl
  have y8 := yy 8 _ rfl
  have y9 := yy 9 _ rfl
  have y10 := yy 10 _ rfl
  clear ha hb hb1 hb2 xx yy
  go_upto_region 6 with fail
  go_cut [26] (fun s26 wx => s26 = .bool false ∧ Hid (Below wr.heap.size wr wx))
  case first =>
   go_region_held3 (fun w' => Below wr.heap.size wr w' ∧ w'.cell? ⟨b1, o1 + k * 11, none⟩ = some (.bool mk) ∧ w'.cell? ⟨b1, o1 + k * 11 + 1, none⟩ = some (.int .u8 ty) ∧ w'.cell? ⟨b1, o1 + k * 11 + 2, none⟩ = some (.int .u16 sq) ∧ w'.cell? ⟨b1, o1 + k * 11 + 3, none⟩ = some (.int .u32 ti) ∧ w'.cell? ⟨b1, o1 + k * 11 + 4, none⟩ = some (.int .u32 sr) ∧ w'.cell? ⟨b1, o1 + k * 11 + 5, none⟩ = some (.slice none 0 0) ∧ w'.cell? ⟨b1, o1 + k * 11 + 6, none⟩ = some (.bool false) ∧ w'.cell? ⟨b1, o1 + k * 11 + 7, none⟩ = some (.int .u16 0) ∧ w'.cell? ⟨b1, o1 + k * 11 + 8, none⟩ = some (.slice none 0 0) ∧ w'.cell? ⟨b1, o1 + k * 11 + 9, none⟩ = some (.slice S1 pl.length c1) ∧ w'.cell? ⟨b1, o1 + k * 11 + 10, none⟩ = some (.int .i64 0) ∧ w'.cell? ⟨b2, o2 + k * 11, none⟩ = some (.bool mk) ∧ w'.cell? ⟨b2, o2 + k * 11 + 1, none⟩ = some (.int .u8 ty) ∧ w'.cell? ⟨b2, o2 + k * 11 + 2, none⟩ = some (.int .u16 sq) ∧ w'.cell? ⟨b2, o2 + k * 11 + 3, none⟩ = some (.int .u32 ti) ∧ w'.cell? ⟨b2, o2 + k * 11 + 4, none⟩ = some (.int .u32 sr) ∧ w'.cell? ⟨b2, o2 + k * 11 + 5, none⟩ = some (.slice none 0 0) ∧ w'.cell? ⟨b2, o2 + k * 11 + 6, none⟩ = some (.bool false) ∧ w'.cell? ⟨b2, o2 + k * 11 + 7, none⟩ = some (.int .u16 0) ∧ w'.cell? ⟨b2, o2 + k * 11 + 8, none⟩ = some (.slice none 0 0) ∧ w'.cell? ⟨b2, o2 + k * 11 + 9, none⟩ = some (.slice S2 pl.length c2) ∧ w'.cell? ⟨b2, o2 + k * 11 + 10, none⟩ = some (.int .i64 0))
    (first | assumption | ((try go_split_ands); refine zay ?_ (fun hbX => ⟨zaa hbX x0, zaa hbX x1, zaa hbX x2, zaa hbX x3, zaa hbX x4, zaa hbX x5, zaa hbX x6, zaa hbX x7, zaa hbX x8, zaa hbX x9, zaa hbX x10, zaa hbX y0, zaa hbX y1, zaa hbX y2, zaa hbX y3, zaa hbX y4, zaa hbX y5, zaa hbX y6, zaa hbX y7, zaa hbX y8, zaa hbX y9, zaa hbX y10⟩); (with_reducible repeat first | assumption | exact Below.refl _ _ | exact zaj (by assumption) (by assumption) | refine Below.drew ?_ | refine zak ?_ _)))
    ((go_at_call 81; refine (k1.out _ (IA.out.later (by (try go_split_ands); first | assumption | exact Below.drew (Below.refl _ _))) (IB.out.later (by (try go_split_ands); first | assumption | exact Below.drew (Below.refl _ _)))).mono ?_; rintro e w7 ⟨rfl, qb⟩; have hbw : Below wr.heap.size wr w7 := zaj qb (by (try go_split_ands); first | assumption | exact Below.drew (Below.refl _ _))))
   all_goals
    go_wp2_with fail
    go_meet
    exact ⟨rfl, H9 hbw⟩
  case rest =>
   obtain ⟨rfl, HW⟩ := hcut
   have U2 := H9 (Bel.later (w := w) U.out HW.out)
   clear x0 x1 x2 x3 x4 x5 x6 x7 x8 x9 x10 y0 y1 y2 y3 y4 y5 y6 y7 y8 y9 y10 IA IB k1
   go_wp2
   go_roundg (gk - 1)
   case measure => omega
   case rel => exact ⟨k + 1, by omega, by go_num, U2⟩
theorem ztb {w : World} {p : Sb.Pt} {A : Option Addr} {l : List TW} {n c : Nat} {ZA : Option Addr} {zs : List Int} {zc : Nat} {codec code cl cm : Int} {W : World} (C : LC w p A l n c ZA zs codec) (S : LS w W p A n c cl cm)
 (h : ∀ (W : World) (a : Act), LS w W p A n c cl cm → Fr 142 [(1, .int .u8 codec), (3, .slice ZA zs.length zc), (4, .int .u8 code), (5, .pointer (some ⟨w.heap.size, 0, none⟩)), (7, .pointer (some ⟨w.heap.size + 1, 0, none⟩))] a → firstWp Tryz.prog sd11_code (bodyPost Tryz.prog Tryz.f5 (fun e w' => e = .returned (.bool true) ∧ Below w.heap.size w w')) a W) (a : Act) (ha : Fr 142 [(1, .int .u8 codec), (3, .slice ZA zs.length zc), (4, .int .u8 code), (5, .pointer (some ⟨w.heap.size, 0, none⟩)), (7, .pointer (some ⟨w.heap.size + 1, 0, none⟩))] a) : firstWp Tryz.prog sd7_code (bodyPost Tryz.prog Tryz.f5 (fun e w' => e = .returned (.bool true) ∧ Below w.heap.size w w')) a W := by
 have hsm := zlu p zs (by rw [← C.pc.q]; simp; have := C.pc.len; have := C.pc.n5; omega)
 have k1 := H9 fun (W : World) (hW : Bel w W) => zpj (C.pc.at hW) (C.z.later hW) C.zb (zc := zc)
 have k2 := H9 fun (W : World) (hW : Bel w W) => znl (C.pc.at hW) (C.z.later hW) C.zb (zc := zc)
 unfold RSendR at k1 k2
 generalize Sb.send p zs = NW at *
 obtain ⟨q, kk, er⟩ := NW
 dsimp only at k1 k2 hsm
 have HS := H9 hsm
 clear hsm
 obtain ⟨s, rfl, e1, e3, e4, e5, e7, _⟩ := ha
 rw [r142, e1, e3, e4, e5, e7]
 clear e1 e3 e4 e5 e7
 refine zec ?_
 intro _ _
 go_wp2_with (first | (refine zae rfl 48 (.tmp 5) rfl (w.heap.size) 0 rfl 48 (PL p A n c) S.b0 48 _ Tryz.underlying48 zah (show 0 + 48 ≤ 48 by decide) (PA p A n c) (by rfl) rfl ?_) | fail)
 refine (k1.out _ S.u).mono ?_
 rintro e w1 ⟨A1, n1, c1, KA1, kc1, ks1, rfl, hk1, hp1, hP1, hb1⟩
 replace S := S.later hb1
 have HK1 := H9 hk1
 clear hb1 k1 hk1
 have BZ : Blk (w1.alloc (Obj.cells (PA Sb.Pt.zero none 0 0) 48)) w1.heap.size 48 (PL Sb.Pt.zero none 0 0).toArray := Blk.new _ _ _
 go_upto_region 8 with (first | (refine zaf rfl 48 (.tmp 15) (.tmp 74) rfl (w1.heap.size) 0 rfl 48 (PL Sb.Pt.zero none 0 0) BZ (PL q A1 n1 c1) rfl zah (show 0 + 48 ≤ 48 by decide) rfl (PL q A1 n1 c1) rfl ?_; intro W3 Ba OB) | fail)
 have hbb := OB.below ((Below.refl _ w1).alloc (Nat.le_refl _) _) (by simp) (Nat.le_refl _)
 replace S := S.later hbb
 replace hp1 := hp1.later hbb
 replace hP1 := hP1.later hbb
 replace Ba := H9 (show PB W3 w1.heap.size q A1 n1 c1 from Ba)
 obtain ⟨ga, hga⟩ : ∃ g, g = w1.heap.size := ⟨_, rfl⟩
 rw [← hga] at Ba ⊢
 clear hga OB BZ hbb
 go_wp2_with (first | (refine zae rfl 48 (.tmp 5) rfl (w.heap.size) 0 rfl 48 (PL p A n c) S.b0 48 _ Tryz.underlying48 zah (show 0 + 48 ≤ 48 by decide) (PA p A n c) (by rfl) rfl ?_) | fail)
 refine (k2.out _ S.u).mono ?_
 rintro e w2 ⟨A2, n2, c2, KA2, kc2, ks2, rfl, hk2, hp2, hP2, hb1⟩
 replace S := S.later hb1
 replace Ba := H9 (Ba.out.later hb1)
 replace hp1 := hp1.later hb1
 replace hP1 := hP1.later hb1
 have HK2 := H9 (HK1.out.trans hk2.symm)
 clear hb1 k2 hk2
 have BZ : Blk (w2.alloc (Obj.cells (PA Sb.Pt.zero none 0 0) 48)) w2.heap.size 48 (PL Sb.Pt.zero none 0 0).toArray := Blk.new _ _ _
 go_upto_region 9 with (first | (refine zaf rfl 48 (.tmp 18) (.tmp 81) rfl (w2.heap.size) 0 rfl 48 (PL Sb.Pt.zero none 0 0) BZ (PL q A2 n2 c2) rfl zah (show 0 + 48 ≤ 48 by decide) rfl (PL q A2 n2 c2) rfl ?_; intro W4 Bb OB) | fail)
 have hbb := OB.below ((Below.refl _ w2).alloc (Nat.le_refl _) _) (by simp) (Nat.le_refl _)
 replace S := S.later hbb
 replace Ba := H9 (Ba.out.later hbb)
 replace hp1 := hp1.later hbb
 replace hP1 := hP1.later hbb
 replace hp2 := hp2.later hbb
 replace hP2 := hP2.later hbb
 replace Bb := H9 (show PB W4 w2.heap.size q A2 n2 c2 from Bb)
 obtain ⟨gb, hgb⟩ : ∃ g, g = w2.heap.size := ⟨_, rfl⟩
 rw [← hgb] at Bb ⊢
 clear hgb OB BZ hbb
 have hn1 := hp1.small HS.out.1
 have hl1 : ks1.length ≤ 100000 := by have h1 := congrArg List.length HK1.out; have h2 := HS.out.2; simp at h1; omega
 have k3 := H9 fun (V : World) (h1 : PW V q A1 n1) (h2 : PW V q A2 n2) => zcz (c := c1) (d := c2) h1 h2 hn1
 have k4 := H9 fun (V : World) h1 h2 => zip KA1 KA2 ks1 ks2 ks1.length ks2.length kc1 kc2 rfl rfl hl1 HK2.out V h1 h2
 have HP := H9 (show PW W4 q A1 n1 ∧ PW W4 q A2 n2 ∧ Pks W4 W4.heap.size KA1 ks1 ∧ Pks W4 W4.heap.size KA2 ks2 from ⟨hp1, hp2, hP1, hP2⟩)
 clear hn1 hl1 hp1 hp2 hP1 hP2
 go_wp2_with (first | (refine zae rfl 48 (.tmp 15) rfl (ga) 0 rfl 48 (PL q A1 n1 c1) Ba.out 48 _ Tryz.underlying48 zah (show 0 + 48 ≤ 48 by decide) (PA q A1 n1 c1) (by rfl) rfl ?_) | (refine zae rfl 48 (.tmp 18) rfl (gb) 0 rfl 48 (PL q A2 n2 c2) Bb.out 48 _ Tryz.underlying48 zah (show 0 + 48 ≤ 48 by decide) (PA q A2 n2 c2) (by rfl) rfl ?_) | fail)
 refine (k3.out _ HP.out.1 HP.out.2.1).mono ?_
 rintro e w5 ⟨rfl, hb1⟩
 replace S := S.later hb1
 replace HP := H9 (show Pks w5 w5.heap.size KA1 ks1 ∧ Pks w5 w5.heap.size KA2 ks2 from ⟨HP.out.2.2.1.later hb1, HP.out.2.2.2.later hb1⟩)
 clear hb1 k3
 go_wp2_with fail
 refine (k4.out _ HP.out.1 HP.out.2).mono ?_
 rintro e w6 ⟨rfl, hb1⟩
 replace S := S.later hb1
 clear hb1 k4 HP
 go_upto_region 11 with fail
 refine zcv (by assumption) ?_
 exact h _ _ S (Fr.mk rfl ⟨rfl, rfl, rfl, rfl, rfl, trivial⟩)
theorem zee {w : World} {p : Sb.Pt} {A : Option Addr} {l : List TW} {n c : Nat} {X : Array Value} (C : PC w p A l n c) (hX : X = PA p A n c) (T : Ev.Snd) (er : Int) : Calls Tryz.prog 83 #[.agg X, .agg #[.bool T.on, .int .u8 T.code, .int .u8 T.vol, .int .u32 T.start, .int .i64 T.len, .int .i64 T.ends], .int .u8 er] w (PortR (if er = 0 then { p with tn := T } else Sb.Pt.zero) er w) := by
 have B0 := H9 (((PB.new w X hX).push (.cells #[.bool T.on, .int .u8 T.code, .int .u8 T.vol, .int .u32 T.start, .int .i64 T.len, .int .i64 T.ends] 35)).push (.cells (PA Sb.Pt.zero none 0 0) 48))
 have BT := H9 ((Blk.new1 w (.cells X 48) 35 #[.bool T.on, .int .u8 T.code, .int .u8 T.vol, .int .u32 T.start, .int .i64 T.len, .int .i64 T.ends]).push (.cells (PA Sb.Pt.zero none 0 0) 48))
 have BR := H9 (Blk.new2 w (.cells X 48) (.cells #[.bool T.on, .int .u8 T.code, .int .u8 T.vol, .int .u32 T.start, .int .i64 T.len, .int .i64 T.ends] 35) 48 (PA Sb.Pt.zero none 0 0))
 have U0 := H9 ((((Bel.refl w).push (.cells X 48)).push (.cells #[.bool T.on, .int .u8 T.code, .int .u8 T.vol, .int .u32 T.start, .int .i64 T.len, .int .i64 T.ends] 35)).push (.cells (PA Sb.Pt.zero none 0 0) 48))
 have k2 := H9 fun (W : World) hW => zdd p.jt A l n c W C.len C.n5 hW C.pay
 unfold CopyR at k2
 rw [C.len] at k2
 clear hX
 go_enter Tryz.func83, Tryz.ntmps83
 go_upto_region 1 with fail
 change Code.wp _ _ _ _ (((w.alloc (Obj.cells X 48)).alloc (Obj.cells #[.bool T.on, .int .u8 T.code, .int .u8 T.vol, .int .u32 T.start, .int .i64 T.len, .int .i64 T.ends] 35)).alloc (Obj.cells (PA Sb.Pt.zero none 0 0) 48))
 obtain ⟨W, hW⟩ : ∃ W, W = ((w.alloc (Obj.cells X 48)).alloc (Obj.cells #[.bool T.on, .int .u8 T.code, .int .u8 T.vol, .int .u32 T.start, .int .i64 T.len, .int .i64 T.ends] 35)).alloc (Obj.cells (PA Sb.Pt.zero none 0 0) 48) := ⟨_, rfl⟩
 rw [← hW] at B0 BT BR U0 ⊢
 clear hW
 by_cases he : er = 0
 rotate_left
 · rw [if_neg he]
   have hL := BR.out.lt
   go_wp2_with (first | (refine zaf rfl 48 (.tmp 6) (.tmp 10) rfl (w.heap.size + 1 + 1) 0 rfl 48 (PL Sb.Pt.zero none 0 0) BR.out (PL Sb.Pt.zero none 0 0) rfl zah (show 0 + 48 ≤ 48 by decide) rfl (PL Sb.Pt.zero none 0 0) rfl ?_; intro WH BH OH) | fail)
   exact bodyPost_ret (v := .tuple #[.agg (PA Sb.Pt.zero none 0 0), .int .u8 er]) (zat Tryz.results83 rfl (PB.load (p := Sb.Pt.zero) (A := none) (n := 0) (c := 0) BH) rfl) rfl ⟨none, 0, 0, [], rfl, rfl, rfl, Nat.le_refl _, Nat.zero_le _, WtsIn.empty, OH.bel U0.out (by omega)⟩
 subst he
 rw [if_pos rfl]
 go_upto_region 3 with fail
 go_wp2_with (first | (refine zae rfl 40 (.tmp 12) rfl (w.heap.size) 14 rfl 48 (PL p A n c) B0.out 14 _ Tryz.underlying40 zbc (show 14 + 14 ≤ 48 by decide) (#[.int .i64 p.jt.least, .int .i64 p.jt.most, .int .i64 p.jt.now, .bool p.jt.on, .int .i64 p.jt.zero, .int .i64 p.jt.first, .int .i64 p.jt.high, .int .i64 p.jt.done, .int .i64 p.jt.spread, .int .i64 p.jt.trans, .slice A n c, .int .i64 p.jt.late, .int .i64 p.jt.twice, .int .i64 p.jt.played]) (by rfl) rfl ?_) | fail)
 have hL1 := BR.out.lt
 refine (k2.out _ (C.av.later U0.out)).mono ?_
 rintro e w2 ⟨A2, c2, l2, rfl, hm2, hQ2, hb1⟩
 have hs2 := hb1.size
 replace U0 := H9 (U0.out.later hb1)
 replace B0 := H9 (B0.out.later hb1)
 replace BT := H9 (BT.out.later hb1)
 replace BR := H9 (BR.out.later hb1)
 clear hb1 k2
 go_upto_region 4 with (first | (refine zaf rfl 40 (.tmp 15) (.tmp 14) rfl (w.heap.size) 14 rfl 48 (PL p A n c) B0.out (JW p.jt A2 n c2) rfl zbc (show 14 + 14 ≤ 48 by decide) rfl (PL p A2 n c2) rfl ?_; intro WF BF OF) | fail)
 replace hQ2 := hQ2.only OF (by omega)
 have HQL := H9 (show l2.map TW.w = p.jt.q from hm2.trans C.q)
 replace BT := H9 (OF.blk BT.out (by omega))
 replace BR := H9 (OF.blk BR.out (by omega))
 replace U0 := H9 (OF.bel U0.out (Nat.le_refl _))
 replace B0 := H9 BF
 clear BF OF hm2
 go_upto_region 5 with (first | (refine zae rfl 35 (.tmp 4) rfl (w.heap.size + 1) 0 rfl 35 ([.bool T.on, .int .u8 T.code, .int .u8 T.vol, .int .u32 T.start, .int .i64 T.len, .int .i64 T.ends]) BT.out 6 _ Tryz.underlying35 zax (show 0 + 6 ≤ 6 by decide) (#[.bool T.on, .int .u8 T.code, .int .u8 T.vol, .int .u32 T.start, .int .i64 T.len, .int .i64 T.ends]) (by rfl) rfl ?_) | (refine zaf rfl 35 (.tmp 17) (.tmp 16) rfl (w.heap.size) 8 rfl 48 (PL p A2 n c2) B0.out ([.bool T.on, .int .u8 T.code, .int .u8 T.vol, .int .u32 T.start, .int .i64 T.len, .int .i64 T.ends]) rfl zax (show 8 + 6 ≤ 48 by decide) rfl (PL { p with tn := T } A2 n c2) rfl ?_; intro WG BG OG) | fail)
 replace hQ2 := hQ2.only OG (by omega)
 replace BR := H9 (OG.blk BR.out (by omega))
 replace U0 := H9 (OG.bel U0.out (Nat.le_refl _))
 replace B0 := H9 BG
 clear BG OG BT
 go_wp2_with (first | (refine zae rfl 48 (.tmp 3) rfl (w.heap.size) 0 rfl 48 (PL { p with tn := T } A2 n c2) B0.out 48 _ Tryz.underlying48 zah (show 0 + 48 ≤ 48 by decide) (PA { p with tn := T } A2 n c2) (by rfl) rfl ?_) | (refine zaf rfl 48 (.tmp 6) (.tmp 18) rfl (w.heap.size + 1 + 1) 0 rfl 48 (PL Sb.Pt.zero none 0 0) BR.out (PL { p with tn := T } A2 n c2) rfl zah (show 0 + 48 ≤ 48 by decide) rfl (PL { p with tn := T } A2 n c2) rfl ?_; intro WH BH OH) | fail)
 replace hQ2 := hQ2.only OH (by omega)
 exact bodyPost_ret (v := .tuple #[.agg (PA { p with tn := T } A2 n c2), .int .u8 0]) (zat Tryz.results83 rfl (PB.load BH) rfl) rfl ⟨A2, n, c2, l2, rfl, HQL.out, hQ2.len, hQ2.capm.1, hQ2.capm.2, hQ2.inW.less (by omega), OH.bel U0.out (by omega)⟩
theorem zlj {w : World} {p : Sb.Pt} {A : Option Addr} {l : List TW} {n c : Nat} {X : Array Value} (C : PC w p A l n c) (hX : X = PA p A n c) (code : Int) : Calls Tryz.prog 26 #[.agg X, .int .u8 code] w (PortR (Sb.press p code).1 (Sb.press p code).2 w) := by
 have B0 := H9 ((PB.new w X hX).push (.cells (PA Sb.Pt.zero none 0 0) 48))
 have BR := H9 (Blk.new1 w (.cells X 48) 48 (PA Sb.Pt.zero none 0 0))
 have U0 := H9 (((Bel.refl w).push (.cells X 48)).push (.cells (PA Sb.Pt.zero none 0 0) 48))
 obtain ⟨v, hv⟩ : ∃ v, v = p.valid := ⟨_, rfl⟩
 have k1 := H9 fun (W : World) hW => zce p C.wf A l n c (PA p A n c) rfl W C.q C.len C.n5 hW C.sq v hv
 have k2 : ∀ W, Calls Tryz.prog 82 #[.agg #[.bool p.tn.on, .int .u8 p.tn.code, .int .u8 p.tn.vol, .int .u32 p.tn.start, .int .i64 p.tn.len, .int .i64 p.tn.ends], .int .u8 code, .int .u8 10, .int .u32 p.time] W fun e w' => e = .returned (.tuple #[.agg (Ev.press p.tn code 10 p.time).1.row, .int .u8 (Ev.press p.tn code 10 p.time).2]) ∧ Below W.heap.size W w' := fun W => zna p.tn.on p.tn.code p.tn.vol p.tn.start p.tn.len p.tn.ends code 10 p.time W
 obtain ⟨R, hR⟩ : ∃ R, R = Sb.press p code := ⟨_, rfl⟩
 rw [← hR]
 have HR := H9 hR
 have HV := H9 hv
 clear hX hv hR
 go_enter Tryz.func26, Tryz.ntmps26
 go_upto_region 1 with fail
 change Code.wp _ _ _ _ ((w.alloc (Obj.cells X 48)).alloc (Obj.cells (PA Sb.Pt.zero none 0 0) 48))
 obtain ⟨W, hW⟩ : ∃ W, W = (w.alloc (Obj.cells X 48)).alloc (Obj.cells (PA Sb.Pt.zero none 0 0) 48) := ⟨_, rfl⟩
 rw [← hW] at B0 BR U0 ⊢
 clear hW
 go_wp2_with (first | (refine zae rfl 48 (.tmp 2) rfl (w.heap.size) 0 rfl 48 (PL p A n c) B0.out 48 _ Tryz.underlying48 zah (show 0 + 48 ≤ 48 by decide) (PA p A n c) (by rfl) rfl ?_) | fail)
 refine (k1.out _ (C.av.later U0.out)).mono ?_
 rintro e w1 ⟨rfl, hb1⟩
 replace U0 := H9 (U0.out.later hb1)
 replace B0 := H9 (B0.out.later hb1)
 replace BR := H9 (BR.out.later hb1)
 clear hb1 k1
 have hL := BR.out.lt
 cases v
 · obtain rfl : R = (Sb.Pt.zero, 2) := by rw [HR.out]; unfold Sb.press; rw [if_pos HV.out.symm]
   go_wp2_with (first | (refine zaf rfl 48 (.tmp 4) (.tmp 11) rfl (w.heap.size + 1) 0 rfl 48 (PL Sb.Pt.zero none 0 0) BR.out (PL Sb.Pt.zero none 0 0) rfl zah (show 0 + 48 ≤ 48 by decide) rfl (PL Sb.Pt.zero none 0 0) rfl ?_; intro WH BH OH) | fail)
   exact bodyPost_ret (v := .tuple #[.agg (PA Sb.Pt.zero none 0 0), .int .u8 2]) (zat Tryz.results26 rfl (PB.load (p := Sb.Pt.zero) (A := none) (n := 0) (c := 0) BH) rfl) rfl ⟨none, 0, 0, [], rfl, rfl, rfl, Nat.le_refl _, Nat.zero_le _, WtsIn.empty, OH.bel U0.out (by omega)⟩
 by_cases h15 : 15 < code
 · obtain rfl : R = (Sb.Pt.zero, 3) := by rw [HR.out]; unfold Sb.press; rw [if_neg (by rw [← HV.out]; decide), if_pos h15]
   go_wp2_with (first | (refine zaf rfl 48 (.tmp 4) (.tmp 14) rfl (w.heap.size + 1) 0 rfl 48 (PL Sb.Pt.zero none 0 0) BR.out (PL Sb.Pt.zero none 0 0) rfl zah (show 0 + 48 ≤ 48 by decide) rfl (PL Sb.Pt.zero none 0 0) rfl ?_; intro WH BH OH) | fail)
   exact bodyPost_ret (v := .tuple #[.agg (PA Sb.Pt.zero none 0 0), .int .u8 3]) (zat Tryz.results26 rfl (PB.load (p := Sb.Pt.zero) (A := none) (n := 0) (c := 0) BH) rfl) rfl ⟨none, 0, 0, [], rfl, rfl, rfl, Nat.le_refl _, Nat.zero_le _, WtsIn.empty, OH.bel U0.out (by omega)⟩
 have hRR : R = (if (Ev.press p.tn code 10 p.time).2 = 0 then { p with tn := (Ev.press p.tn code 10 p.time).1 } else Sb.Pt.zero, (Ev.press p.tn code 10 p.time).2) := by
  rw [HR.out]; unfold Sb.press; rw [if_neg (by rw [← HV.out]; decide), if_neg h15]
  split
  · rename_i h0; rw [h0]
  · rfl
 have HRR := H9 hRR
 clear hRR
 generalize Ev.press p.tn code 10 p.time = TT at *
 obtain ⟨T, er⟩ := TT
 simp only at HRR k2
 rw [zem T] at k2
 replace k2 := H9 k2
 have hwt := H9 fun (W : World) (hb : Below w.heap.size w W) => zee (C.later hb) rfl T er
 unfold PortR at hwt
 rw [HRR.out]
 generalize (if er = 0 then { p with tn := T } else Sb.Pt.zero) = q at *
 have x3 := B0.out.cell 3 _ rfl
 go_upto_region 5 with fail
 go_wp2_with (first | (refine zae rfl 35 (.tmp 16) rfl (w.heap.size) 8 rfl 48 (PL p A n c) B0.out 6 _ Tryz.underlying35 zax (show 8 + 6 ≤ 48 by decide) (#[.bool p.tn.on, .int .u8 p.tn.code, .int .u8 p.tn.vol, .int .u32 p.tn.start, .int .i64 p.tn.len, .int .i64 p.tn.ends]) (by rfl) rfl ?_) | fail)
 refine (k2.out _).mono ?_
 rintro e w2 ⟨rfl, hb1⟩
 replace U0 := H9 (U0.out.later hb1)
 replace B0 := H9 (B0.out.later hb1)
 replace BR := H9 (BR.out.later hb1)
 clear hb1 k2
 try clear x3
 have BT := H9 (Blk.new w2 35 #[.bool T.on, .int .u8 T.code, .int .u8 T.vol, .int .u32 T.start, .int .i64 T.len, .int .i64 T.ends])
 replace U0 := H9 (U0.out.push (.cells #[.bool T.on, .int .u8 T.code, .int .u8 T.vol, .int .u32 T.start, .int .i64 T.len, .int .i64 T.ends] 35))
 replace B0 := H9 (PB.push B0.out (.cells #[.bool T.on, .int .u8 T.code, .int .u8 T.vol, .int .u32 T.start, .int .i64 T.len, .int .i64 T.ends] 35))
 have hL2 := BR.out.lt
 replace BR := H9 (BR.out.push (.cells #[.bool T.on, .int .u8 T.code, .int .u8 T.vol, .int .u32 T.start, .int .i64 T.len, .int .i64 T.ends] 35))
 obtain ⟨gt, hgt⟩ : ∃ g, g = w2.heap.size := ⟨_, rfl⟩
 obtain ⟨W3, hW3⟩ : ∃ V, V = w2.alloc (Obj.cells #[.bool T.on, .int .u8 T.code, .int .u8 T.vol, .int .u32 T.start, .int .i64 T.len, .int .i64 T.ends] 35) := ⟨_, rfl⟩
 rw [← hgt, ← hW3] at BT
 go_upto_region 6 with fail
 rw [← hgt]
 rw [← hW3] at U0 B0 BR ⊢
 clear hW3 hgt
 go_wp2_with (first | (refine zae rfl 48 (.tmp 2) rfl (w.heap.size) 0 rfl 48 (PL p A n c) B0.out 48 _ Tryz.underlying48 zah (show 0 + 48 ≤ 48 by decide) (PA p A n c) (by rfl) rfl ?_) | (refine zae rfl 35 (.tmp 6) rfl (gt) 0 rfl 35 ([.bool T.on, .int .u8 T.code, .int .u8 T.vol, .int .u32 T.start, .int .i64 T.len, .int .i64 T.ends]) BT.out 6 _ Tryz.underlying35 zax (show 0 + 6 ≤ 6 by decide) (#[.bool T.on, .int .u8 T.code, .int .u8 T.vol, .int .u32 T.start, .int .i64 T.len, .int .i64 T.ends]) (by rfl) rfl ?_) | fail)
 refine (hwt.out _ U0.out).mono ?_
 rintro e w4 ⟨A4, n4, c4, l4, rfl, e1, e2, e3, e4, e5, hb1⟩
 have hL4 := BR.out.lt
 replace U0 := H9 (U0.out.later hb1)
 replace B0 := H9 (B0.out.later hb1)
 replace BR := H9 (BR.out.later hb1)
 clear hb1 hwt BT
 go_wp2_with (first | (refine zaf rfl 48 (.tmp 4) (.tmp 28) rfl (w.heap.size + 1) 0 rfl 48 (PL Sb.Pt.zero none 0 0) BR.out (PL q A4 n4 c4) rfl zah (show 0 + 48 ≤ 48 by decide) rfl (PL q A4 n4 c4) rfl ?_; intro WH BH OH) | fail)
 rw [HRR.out]
 exact bodyPost_ret (v := .tuple #[.agg (PA q A4 n4 c4), .int .u8 er]) (zat Tryz.results26 rfl (PB.load BH) rfl) rfl ⟨A4, n4, c4, l4, rfl, e1, e2, e3, e4, (e5.step OH (by omega)).less (by omega), OH.bel U0.out (by omega)⟩
theorem zhs {w : World} {p : Sb.Pt} {A : Option Addr} {l : List TW} {n c : Nat} {X : Array Value} (C : PC w p A l n c) (hX : X = PA p A n c) : Calls Tryz.prog 28 #[.agg X] w (PortR (Sb.release p).1 (Sb.release p).2 w) := by
 have B0 := H9 ((PB.new w X hX).push (.cells (PA Sb.Pt.zero none 0 0) 48))
 have BR := H9 (Blk.new1 w (.cells X 48) 48 (PA Sb.Pt.zero none 0 0))
 have U0 := H9 (((Bel.refl w).push (.cells X 48)).push (.cells (PA Sb.Pt.zero none 0 0) 48))
 obtain ⟨v, hv⟩ : ∃ v, v = p.valid := ⟨_, rfl⟩
 have k1 := H9 fun (W : World) hW => zce p C.wf A l n c (PA p A n c) rfl W C.q C.len C.n5 hW C.sq v hv
 have k2 : ∀ W, Calls Tryz.prog 66 #[.agg #[.bool p.tn.on, .int .u8 p.tn.code, .int .u8 p.tn.vol, .int .u32 p.tn.start, .int .i64 p.tn.len, .int .i64 p.tn.ends]] W fun e w' => e = .returned (.tuple #[.agg (Ev.release p.tn).1.row, .int .u8 (Ev.release p.tn).2]) ∧ Below W.heap.size W w' := fun W => zeq p.tn.on p.tn.code p.tn.vol p.tn.start p.tn.len p.tn.ends W
 obtain ⟨R, hR⟩ : ∃ R, R = Sb.release p := ⟨_, rfl⟩
 rw [← hR]
 have HR := H9 hR
 have HV := H9 hv
 clear hX hv hR
 go_enter Tryz.func28, Tryz.ntmps28
 go_upto_region 1 with fail
 change Code.wp _ _ _ _ ((w.alloc (Obj.cells X 48)).alloc (Obj.cells (PA Sb.Pt.zero none 0 0) 48))
 obtain ⟨W, hW⟩ : ∃ W, W = (w.alloc (Obj.cells X 48)).alloc (Obj.cells (PA Sb.Pt.zero none 0 0) 48) := ⟨_, rfl⟩
 rw [← hW] at B0 BR U0 ⊢
 clear hW
 go_wp2_with (first | (refine zae rfl 48 (.tmp 1) rfl (w.heap.size) 0 rfl 48 (PL p A n c) B0.out 48 _ Tryz.underlying48 zah (show 0 + 48 ≤ 48 by decide) (PA p A n c) (by rfl) rfl ?_) | fail)
 refine (k1.out _ (C.av.later U0.out)).mono ?_
 rintro e w1 ⟨rfl, hb1⟩
 replace U0 := H9 (U0.out.later hb1)
 replace B0 := H9 (B0.out.later hb1)
 replace BR := H9 (BR.out.later hb1)
 clear hb1 k1
 have hL := BR.out.lt
 cases v
 · obtain rfl : R = (Sb.Pt.zero, 2) := by rw [HR.out]; unfold Sb.release; rw [if_pos HV.out.symm]
   go_wp2_with (first | (refine zaf rfl 48 (.tmp 2) (.tmp 9) rfl (w.heap.size + 1) 0 rfl 48 (PL Sb.Pt.zero none 0 0) BR.out (PL Sb.Pt.zero none 0 0) rfl zah (show 0 + 48 ≤ 48 by decide) rfl (PL Sb.Pt.zero none 0 0) rfl ?_; intro WH BH OH) | fail)
   exact bodyPost_ret (v := .tuple #[.agg (PA Sb.Pt.zero none 0 0), .int .u8 2]) (zat Tryz.results28 rfl (PB.load (p := Sb.Pt.zero) (A := none) (n := 0) (c := 0) BH) rfl) rfl ⟨none, 0, 0, [], rfl, rfl, rfl, Nat.le_refl _, Nat.zero_le _, WtsIn.empty, OH.bel U0.out (by omega)⟩
 have hRR : R = (if (Ev.release p.tn).2 = 0 then { p with tn := (Ev.release p.tn).1 } else Sb.Pt.zero, (Ev.release p.tn).2) := by
  rw [HR.out]; unfold Sb.release; rw [if_neg (by rw [← HV.out]; decide)]
  split
  · rename_i h0; rw [h0]
  · rfl
 have HRR := H9 hRR
 clear hRR
 generalize Ev.release p.tn = TT at *
 obtain ⟨T, er⟩ := TT
 simp only at HRR k2
 rw [zem T] at k2
 replace k2 := H9 k2
 have hwt := H9 fun (W : World) (hb : Below w.heap.size w W) => zee (C.later hb) rfl T er
 unfold PortR at hwt
 rw [HRR.out]
 generalize (if er = 0 then { p with tn := T } else Sb.Pt.zero) = q at *
 have x3 := B0.out.cell 3 _ rfl
 go_upto_region 3 with fail
 go_wp2_with (first | (refine zae rfl 35 (.tmp 11) rfl (w.heap.size) 8 rfl 48 (PL p A n c) B0.out 6 _ Tryz.underlying35 zax (show 8 + 6 ≤ 48 by decide) (#[.bool p.tn.on, .int .u8 p.tn.code, .int .u8 p.tn.vol, .int .u32 p.tn.start, .int .i64 p.tn.len, .int .i64 p.tn.ends]) (by rfl) rfl ?_) | fail)
 refine (k2.out _).mono ?_
 rintro e w2 ⟨rfl, hb1⟩
 replace U0 := H9 (U0.out.later hb1)
 replace B0 := H9 (B0.out.later hb1)
 replace BR := H9 (BR.out.later hb1)
 clear hb1 k2
 try clear x3
 have BT := H9 (Blk.new w2 35 #[.bool T.on, .int .u8 T.code, .int .u8 T.vol, .int .u32 T.start, .int .i64 T.len, .int .i64 T.ends])
 replace U0 := H9 (U0.out.push (.cells #[.bool T.on, .int .u8 T.code, .int .u8 T.vol, .int .u32 T.start, .int .i64 T.len, .int .i64 T.ends] 35))
 replace B0 := H9 (PB.push B0.out (.cells #[.bool T.on, .int .u8 T.code, .int .u8 T.vol, .int .u32 T.start, .int .i64 T.len, .int .i64 T.ends] 35))
 have hL2 := BR.out.lt
 replace BR := H9 (BR.out.push (.cells #[.bool T.on, .int .u8 T.code, .int .u8 T.vol, .int .u32 T.start, .int .i64 T.len, .int .i64 T.ends] 35))
 obtain ⟨gt, hgt⟩ : ∃ g, g = w2.heap.size := ⟨_, rfl⟩
 obtain ⟨W3, hW3⟩ : ∃ V, V = w2.alloc (Obj.cells #[.bool T.on, .int .u8 T.code, .int .u8 T.vol, .int .u32 T.start, .int .i64 T.len, .int .i64 T.ends] 35) := ⟨_, rfl⟩
 rw [← hgt, ← hW3] at BT
 go_upto_region 4 with fail
 rw [← hgt]
 rw [← hW3] at U0 B0 BR ⊢
 clear hW3 hgt
 go_wp2_with (first | (refine zae rfl 48 (.tmp 1) rfl (w.heap.size) 0 rfl 48 (PL p A n c) B0.out 48 _ Tryz.underlying48 zah (show 0 + 48 ≤ 48 by decide) (PA p A n c) (by rfl) rfl ?_) | (refine zae rfl 35 (.tmp 4) rfl (gt) 0 rfl 35 ([.bool T.on, .int .u8 T.code, .int .u8 T.vol, .int .u32 T.start, .int .i64 T.len, .int .i64 T.ends]) BT.out 6 _ Tryz.underlying35 zax (show 0 + 6 ≤ 6 by decide) (#[.bool T.on, .int .u8 T.code, .int .u8 T.vol, .int .u32 T.start, .int .i64 T.len, .int .i64 T.ends]) (by rfl) rfl ?_) | fail)
 refine (hwt.out _ U0.out).mono ?_
 rintro e w4 ⟨A4, n4, c4, l4, rfl, e1, e2, e3, e4, e5, hb1⟩
 have hL4 := BR.out.lt
 replace U0 := H9 (U0.out.later hb1)
 replace B0 := H9 (B0.out.later hb1)
 replace BR := H9 (BR.out.later hb1)
 clear hb1 hwt BT
 go_wp2_with (first | (refine zaf rfl 48 (.tmp 2) (.tmp 20) rfl (w.heap.size + 1) 0 rfl 48 (PL Sb.Pt.zero none 0 0) BR.out (PL q A4 n4 c4) rfl zah (show 0 + 48 ≤ 48 by decide) rfl (PL q A4 n4 c4) rfl ?_; intro WH BH OH) | fail)
 rw [HRR.out]
 exact bodyPost_ret (v := .tuple #[.agg (PA q A4 n4 c4), .int .u8 er]) (zat Tryz.results28 rfl (PB.load BH) rfl) rfl ⟨A4, n4, c4, l4, rfl, e1, e2, e3, e4, (e5.step OH (by omega)).less (by omega), OH.bel U0.out (by omega)⟩
theorem ziq {w : World} {p : Sb.Pt} {A : Option Addr} {l : List TW} {n c : Nat} {X : Array Value} (C : PC w p A l n c) (hX : X = PA p A n c) (code : Int) : Calls Tryz.prog 27 #[.agg X, .int .u8 code] w (RPort (Sb.press p code).1 (Sb.press p code).2 w) := by
 have S := RB.new w X hX
 obtain ⟨v, hv⟩ : ∃ v, v = p.valid := ⟨_, rfl⟩
 have k1 := H9 fun (W : World) hW => zch p A l n c (PA p A n c) rfl W C.q C.len C.n5 hW (fun a h => Nat.le_trans (C.pay a h) (by decide)) v hv
 have k2 : ∀ W, Calls Tryz.prog 84 #[.agg #[.bool p.tn.on, .int .u8 p.tn.code, .int .u8 p.tn.vol, .int .u32 p.tn.start, .int .i64 p.tn.len, .int .i64 p.tn.ends], .int .u8 code, .int .u8 10, .int .u32 p.time] W fun e w' => e = .returned (.tuple #[.agg (Ev.press p.tn code 10 p.time).1.row, .int .u8 (Ev.press p.tn code 10 p.time).2]) ∧ Below W.heap.size W w' := fun W => zky p.tn.on p.tn.code p.tn.vol p.tn.start p.tn.len p.tn.ends code 10 p.time W
 obtain ⟨R, hR⟩ : ∃ R, R = Sb.press p code := ⟨_, rfl⟩
 rw [← hR]
 have HR := H9 hR
 have HV := H9 hv
 clear hv hR
 clear hX
 go_enter Tryz.func27, Tryz.ntmps27
 go_upto_region 1 with fail
 change Code.wp _ _ _ _ ((w.alloc (Obj.cells X 48)).alloc (Obj.cells (PA Sb.Pt.zero none 0 0) 48))
 obtain ⟨W, hW⟩ : ∃ W, W = (w.alloc (Obj.cells X 48)).alloc (Obj.cells (PA Sb.Pt.zero none 0 0) 48) := ⟨_, rfl⟩
 rw [← hW] at S ⊢
 clear hW
 go_wp2_with (first | (refine zae rfl 48 (.tmp 2) rfl (w.heap.size) 0 rfl 48 (PL p A n c) S.b0 48 _ Tryz.underlying48 zah (show 0 + 48 ≤ 48 by decide) (PA p A n c) (by rfl) rfl ?_) | fail)
 refine (k1.out _ (C.av.later S.u)).mono ?_
 rintro e w1 ⟨rfl, hb1⟩
 replace S := S.later hb1
 clear hb1 k1
 have hL := S.lt
 cases v
 · obtain rfl : R = (Sb.Pt.zero, 2) := by rw [HR.out]; unfold Sb.press; rw [if_pos HV.out.symm]
   go_wp2_with (first | (refine zaf rfl 48 (.tmp 4) (.tmp 11) rfl (w.heap.size + 1) 0 rfl 48 (PL Sb.Pt.zero none 0 0) S.b1 (PL Sb.Pt.zero none 0 0) rfl zah (show 0 + 48 ≤ 48 by decide) rfl (PL Sb.Pt.zero none 0 0) rfl ?_; intro WH BH OH) | fail)
   exact bodyPost_ret (v := .tuple #[.agg (PA Sb.Pt.zero none 0 0), .int .u8 2]) (zat Tryz.results27 rfl (PB.load (p := Sb.Pt.zero) (A := none) (n := 0) (c := 0) BH) rfl) rfl ⟨none, 0, 0, rfl, PW.zero, OH.bel S.u (by omega)⟩
 by_cases h15 : 15 < code
 · obtain rfl : R = (Sb.Pt.zero, 3) := by rw [HR.out]; unfold Sb.press; rw [if_neg (by rw [← HV.out]; decide), if_pos h15]
   go_wp2_with (first | (refine zaf rfl 48 (.tmp 4) (.tmp 14) rfl (w.heap.size + 1) 0 rfl 48 (PL Sb.Pt.zero none 0 0) S.b1 (PL Sb.Pt.zero none 0 0) rfl zah (show 0 + 48 ≤ 48 by decide) rfl (PL Sb.Pt.zero none 0 0) rfl ?_; intro WH BH OH) | fail)
   exact bodyPost_ret (v := .tuple #[.agg (PA Sb.Pt.zero none 0 0), .int .u8 3]) (zat Tryz.results27 rfl (PB.load (p := Sb.Pt.zero) (A := none) (n := 0) (c := 0) BH) rfl) rfl ⟨none, 0, 0, rfl, PW.zero, OH.bel S.u (by omega)⟩
 have hRR : R = (if (Ev.press p.tn code 10 p.time).2 = 0 then { p with tn := (Ev.press p.tn code 10 p.time).1 } else Sb.Pt.zero, (Ev.press p.tn code 10 p.time).2) := by
  rw [HR.out]; unfold Sb.press; rw [if_neg (by rw [← HV.out]; decide), if_neg h15]
  split
  · rename_i h0; rw [h0]
  · rfl
 have HRR := H9 hRR
 clear hRR
 generalize Ev.press p.tn code 10 p.time = TT at *
 obtain ⟨T, er⟩ := TT
 simp only at HRR k2
 rw [zem T] at k2
 replace k2 := H9 k2
 obtain ⟨q, hq⟩ : ∃ q, q = (if er = 0 then { p with tn := T } else Sb.Pt.zero) := ⟨_, rfl⟩
 rw [← hq] at HRR
 obtain rfl : R = (q, er) := HRR.out
 have HQ := H9 hq
 clear hq HRR
 have x3 := S.cell 3 _ rfl
 go_upto_region 5 with fail
 go_wp2_with (first | (refine zae rfl 35 (.tmp 16) rfl (w.heap.size) 8 rfl 48 (PL p A n c) S.b0 6 _ Tryz.underlying35 zax (show 8 + 6 ≤ 48 by decide) (#[.bool p.tn.on, .int .u8 p.tn.code, .int .u8 p.tn.vol, .int .u32 p.tn.start, .int .i64 p.tn.len, .int .i64 p.tn.ends]) (by rfl) rfl ?_) | fail)
 refine (k2.out _).mono ?_
 rintro e w1 ⟨rfl, hb1⟩
 replace S := S.later hb1
 clear hb1 k2
 try clear x3
 have BT := H9 (Blk.new w1 35 #[.bool T.on, .int .u8 T.code, .int .u8 T.vol, .int .u32 T.start, .int .i64 T.len, .int .i64 T.ends])
 have hL2 := S.lt
 replace S := S.push (.cells #[.bool T.on, .int .u8 T.code, .int .u8 T.vol, .int .u32 T.start, .int .i64 T.len, .int .i64 T.ends] 35)
 obtain ⟨gt, hgt⟩ : ∃ g, g = w1.heap.size := ⟨_, rfl⟩
 obtain ⟨W3, hW3⟩ : ∃ V, V = w1.alloc (Obj.cells #[.bool T.on, .int .u8 T.code, .int .u8 T.vol, .int .u32 T.start, .int .i64 T.len, .int .i64 T.ends] 35) := ⟨_, rfl⟩
 rw [← hgt, ← hW3] at BT
 rw [← hgt] at hL2
 go_upto_region 6 with fail
 rw [← hgt]
 rw [← hW3] at S ⊢
 clear hW3 hgt
 by_cases he : er = 0
 rotate_left
 · obtain rfl : q = Sb.Pt.zero := by rw [HQ.out, if_neg he]
   have hL3 := S.lt
   go_wp2_with (first | (refine zaf rfl 48 (.tmp 4) (.tmp 26) rfl (w.heap.size + 1) 0 rfl 48 (PL Sb.Pt.zero none 0 0) S.b1 (PL Sb.Pt.zero none 0 0) rfl zah (show 0 + 48 ≤ 48 by decide) rfl (PL Sb.Pt.zero none 0 0) rfl ?_; intro WH BH OH) | fail)
   exact bodyPost_ret (v := .tuple #[.agg (PA Sb.Pt.zero none 0 0), .int .u8 er]) (zat Tryz.results27 rfl (PB.load (p := Sb.Pt.zero) (A := none) (n := 0) (c := 0) BH) rfl) rfl ⟨none, 0, 0, rfl, PW.zero, OH.bel S.u (by omega)⟩
 subst he
 obtain rfl : q = { p with tn := T } := by rw [HQ.out, if_pos rfl]
 go_upto_region 9 with (first | (refine zae rfl 35 (.tmp 6) rfl (gt) 0 rfl 35 ([.bool T.on, .int .u8 T.code, .int .u8 T.vol, .int .u32 T.start, .int .i64 T.len, .int .i64 T.ends]) BT.out 6 _ Tryz.underlying35 zax (show 0 + 6 ≤ 6 by decide) (#[.bool T.on, .int .u8 T.code, .int .u8 T.vol, .int .u32 T.start, .int .i64 T.len, .int .i64 T.ends]) (by rfl) rfl ?_) | (refine zaf rfl 35 (.tmp 29) (.tmp 28) rfl (w.heap.size) 8 rfl 48 (PL p A n c) S.b0 ([.bool T.on, .int .u8 T.code, .int .u8 T.vol, .int .u32 T.start, .int .i64 T.len, .int .i64 T.ends]) rfl zax (show 8 + 6 ≤ 48 by decide) rfl (PL { p with tn := T } A n c) rfl ?_; intro WG BG OG) | fail)
 replace S := S.over OG BG
 clear BG OG BT
 go_wp2_with (first | (refine zae rfl 48 (.tmp 2) rfl (w.heap.size) 0 rfl 48 (PL { p with tn := T } A n c) S.b0 48 _ Tryz.underlying48 zah (show 0 + 48 ≤ 48 by decide) (PA { p with tn := T } A n c) (by rfl) rfl ?_) | (refine zaf rfl 48 (.tmp 4) (.tmp 30) rfl (w.heap.size + 1) 0 rfl 48 (PL Sb.Pt.zero none 0 0) S.b1 (PL { p with tn := T } A n c) rfl zah (show 0 + 48 ≤ 48 by decide) rfl (PL { p with tn := T } A n c) rfl ?_; intro WH BH OH) | fail)
 exact bodyPost_ret (v := .tuple #[.agg (PA { p with tn := T } A n c), .int .u8 0]) (zat Tryz.results27 rfl (PB.load BH) rfl) rfl ⟨A, n, c, rfl, C.pw (OH.bel S.u (by omega)) rfl, OH.bel S.u (by omega)⟩
theorem zgi {w : World} {p : Sb.Pt} {A : Option Addr} {l : List TW} {n c : Nat} {X : Array Value} (C : PC w p A l n c) (hX : X = PA p A n c) : Calls Tryz.prog 29 #[.agg X] w (RPort (Sb.release p).1 (Sb.release p).2 w) := by
 have S := RB.new w X hX
 obtain ⟨v, hv⟩ : ∃ v, v = p.valid := ⟨_, rfl⟩
 have k1 := H9 fun (W : World) hW => zch p A l n c (PA p A n c) rfl W C.q C.len C.n5 hW (fun a h => Nat.le_trans (C.pay a h) (by decide)) v hv
 have k2 : ∀ W, Calls Tryz.prog 85 #[.agg #[.bool p.tn.on, .int .u8 p.tn.code, .int .u8 p.tn.vol, .int .u32 p.tn.start, .int .i64 p.tn.len, .int .i64 p.tn.ends]] W fun e w' => e = .returned (.tuple #[.agg (Ev.release p.tn).1.row, .int .u8 (Ev.release p.tn).2]) ∧ Below W.heap.size W w' := fun W => zhg p.tn.on p.tn.code p.tn.vol p.tn.start p.tn.len p.tn.ends W
 obtain ⟨R, hR⟩ : ∃ R, R = Sb.release p := ⟨_, rfl⟩
 rw [← hR]
 have HR := H9 hR
 have HV := H9 hv
 clear hv hR
 clear hX
 go_enter Tryz.func29, Tryz.ntmps29
 go_upto_region 1 with fail
 change Code.wp _ _ _ _ ((w.alloc (Obj.cells X 48)).alloc (Obj.cells (PA Sb.Pt.zero none 0 0) 48))
 obtain ⟨W, hW⟩ : ∃ W, W = (w.alloc (Obj.cells X 48)).alloc (Obj.cells (PA Sb.Pt.zero none 0 0) 48) := ⟨_, rfl⟩
 rw [← hW] at S ⊢
 clear hW
 go_wp2_with (first | (refine zae rfl 48 (.tmp 1) rfl (w.heap.size) 0 rfl 48 (PL p A n c) S.b0 48 _ Tryz.underlying48 zah (show 0 + 48 ≤ 48 by decide) (PA p A n c) (by rfl) rfl ?_) | fail)
 refine (k1.out _ (C.av.later S.u)).mono ?_
 rintro e w1 ⟨rfl, hb1⟩
 replace S := S.later hb1
 clear hb1 k1
 have hL := S.lt
 cases v
 · obtain rfl : R = (Sb.Pt.zero, 2) := by rw [HR.out]; unfold Sb.release; rw [if_pos HV.out.symm]
   go_wp2_with (first | (refine zaf rfl 48 (.tmp 2) (.tmp 9) rfl (w.heap.size + 1) 0 rfl 48 (PL Sb.Pt.zero none 0 0) S.b1 (PL Sb.Pt.zero none 0 0) rfl zah (show 0 + 48 ≤ 48 by decide) rfl (PL Sb.Pt.zero none 0 0) rfl ?_; intro WH BH OH) | fail)
   exact bodyPost_ret (v := .tuple #[.agg (PA Sb.Pt.zero none 0 0), .int .u8 2]) (zat Tryz.results29 rfl (PB.load (p := Sb.Pt.zero) (A := none) (n := 0) (c := 0) BH) rfl) rfl ⟨none, 0, 0, rfl, PW.zero, OH.bel S.u (by omega)⟩
 have hRR : R = (if (Ev.release p.tn).2 = 0 then { p with tn := (Ev.release p.tn).1 } else Sb.Pt.zero, (Ev.release p.tn).2) := by
  rw [HR.out]; unfold Sb.release; rw [if_neg (by rw [← HV.out]; decide)]
  split
  · rename_i h0; rw [h0]
  · rfl
 have HRR := H9 hRR
 clear hRR
 generalize Ev.release p.tn = TT at *
 obtain ⟨T, er⟩ := TT
 simp only at HRR k2
 rw [zem T] at k2
 replace k2 := H9 k2
 obtain ⟨q, hq⟩ : ∃ q, q = (if er = 0 then { p with tn := T } else Sb.Pt.zero) := ⟨_, rfl⟩
 rw [← hq] at HRR
 obtain rfl : R = (q, er) := HRR.out
 have HQ := H9 hq
 clear hq HRR
 have x3 := S.cell 3 _ rfl
 go_upto_region 3 with fail
 go_wp2_with (first | (refine zae rfl 35 (.tmp 11) rfl (w.heap.size) 8 rfl 48 (PL p A n c) S.b0 6 _ Tryz.underlying35 zax (show 8 + 6 ≤ 48 by decide) (#[.bool p.tn.on, .int .u8 p.tn.code, .int .u8 p.tn.vol, .int .u32 p.tn.start, .int .i64 p.tn.len, .int .i64 p.tn.ends]) (by rfl) rfl ?_) | fail)
 refine (k2.out _).mono ?_
 rintro e w1 ⟨rfl, hb1⟩
 replace S := S.later hb1
 clear hb1 k2
 try clear x3
 have BT := H9 (Blk.new w1 35 #[.bool T.on, .int .u8 T.code, .int .u8 T.vol, .int .u32 T.start, .int .i64 T.len, .int .i64 T.ends])
 have hL2 := S.lt
 replace S := S.push (.cells #[.bool T.on, .int .u8 T.code, .int .u8 T.vol, .int .u32 T.start, .int .i64 T.len, .int .i64 T.ends] 35)
 obtain ⟨gt, hgt⟩ : ∃ g, g = w1.heap.size := ⟨_, rfl⟩
 obtain ⟨W3, hW3⟩ : ∃ V, V = w1.alloc (Obj.cells #[.bool T.on, .int .u8 T.code, .int .u8 T.vol, .int .u32 T.start, .int .i64 T.len, .int .i64 T.ends] 35) := ⟨_, rfl⟩
 rw [← hgt, ← hW3] at BT
 rw [← hgt] at hL2
 go_upto_region 4 with fail
 rw [← hgt]
 rw [← hW3] at S ⊢
 clear hW3 hgt
 by_cases he : er = 0
 rotate_left
 · obtain rfl : q = Sb.Pt.zero := by rw [HQ.out, if_neg he]
   have hL3 := S.lt
   go_wp2_with (first | (refine zaf rfl 48 (.tmp 2) (.tmp 18) rfl (w.heap.size + 1) 0 rfl 48 (PL Sb.Pt.zero none 0 0) S.b1 (PL Sb.Pt.zero none 0 0) rfl zah (show 0 + 48 ≤ 48 by decide) rfl (PL Sb.Pt.zero none 0 0) rfl ?_; intro WH BH OH) | fail)
   exact bodyPost_ret (v := .tuple #[.agg (PA Sb.Pt.zero none 0 0), .int .u8 er]) (zat Tryz.results29 rfl (PB.load (p := Sb.Pt.zero) (A := none) (n := 0) (c := 0) BH) rfl) rfl ⟨none, 0, 0, rfl, PW.zero, OH.bel S.u (by omega)⟩
 subst he
 obtain rfl : q = { p with tn := T } := by rw [HQ.out, if_pos rfl]
 go_upto_region 7 with (first | (refine zae rfl 35 (.tmp 4) rfl (gt) 0 rfl 35 ([.bool T.on, .int .u8 T.code, .int .u8 T.vol, .int .u32 T.start, .int .i64 T.len, .int .i64 T.ends]) BT.out 6 _ Tryz.underlying35 zax (show 0 + 6 ≤ 6 by decide) (#[.bool T.on, .int .u8 T.code, .int .u8 T.vol, .int .u32 T.start, .int .i64 T.len, .int .i64 T.ends]) (by rfl) rfl ?_) | (refine zaf rfl 35 (.tmp 21) (.tmp 20) rfl (w.heap.size) 8 rfl 48 (PL p A n c) S.b0 ([.bool T.on, .int .u8 T.code, .int .u8 T.vol, .int .u32 T.start, .int .i64 T.len, .int .i64 T.ends]) rfl zax (show 8 + 6 ≤ 48 by decide) rfl (PL { p with tn := T } A n c) rfl ?_; intro WG BG OG) | fail)
 replace S := S.over OG BG
 clear BG OG BT
 go_wp2_with (first | (refine zae rfl 48 (.tmp 1) rfl (w.heap.size) 0 rfl 48 (PL { p with tn := T } A n c) S.b0 48 _ Tryz.underlying48 zah (show 0 + 48 ≤ 48 by decide) (PA { p with tn := T } A n c) (by rfl) rfl ?_) | (refine zaf rfl 48 (.tmp 2) (.tmp 22) rfl (w.heap.size + 1) 0 rfl 48 (PL Sb.Pt.zero none 0 0) S.b1 (PL { p with tn := T } A n c) rfl zah (show 0 + 48 ≤ 48 by decide) rfl (PL { p with tn := T } A n c) rfl ?_; intro WH BH OH) | fail)
 exact bodyPost_ret (v := .tuple #[.agg (PA { p with tn := T } A n c), .int .u8 0]) (zat Tryz.results29 rfl (PB.load BH) rfl) rfl ⟨A, n, c, rfl, C.pw (OH.bel S.u (by omega)) rfl, OH.bel S.u (by omega)⟩
theorem zro {w : World} {p : Sb.Pt} {A : Option Addr} {l : List TW} {n c : Nat} {ZA : Option Addr} {zs : List Int} {zc : Nat} {codec code cl cm : Int} {W : World} (C : LC w p A l n c ZA zs codec) (S : LS w W p A n c cl cm) (a : Act) (ha : Fr 142 [(1, .int .u8 codec), (3, .slice ZA zs.length zc), (4, .int .u8 code), (5, .pointer (some ⟨w.heap.size, 0, none⟩)), (7, .pointer (some ⟨w.heap.size + 1, 0, none⟩))] a) : firstWp Tryz.prog sd11_code (bodyPost Tryz.prog Tryz.f5 (fun e w' => e = .returned (.bool true) ∧ Below w.heap.size w w')) a W := by
 have hql : p.jt.q.length ≤ 100000 := by rw [← C.pc.q]; simp; have := C.pc.len; have := C.pc.n5; omega
 have hs1 := ziv p code hql
 have hs2 := zgl p hql
 have k1 := H9 fun (W : World) (hW : Bel w W) => (zlj (C.pc.at hW) rfl code).mono fun e w' h => RPort.of h
 have k2 := H9 fun (W : World) (hW : Bel w W) => ziq (C.pc.at hW) rfl code
 have k3 := H9 fun (W : World) (hW : Bel w W) => (zhs (C.pc.at hW) rfl).mono fun e w' h => RPort.of h
 have k4 := H9 fun (W : World) (hW : Bel w W) => zgi (C.pc.at hW) rfl
 unfold RPort at k1 k2 k3 k4
 generalize Sb.press p code = NW at *
 obtain ⟨q, er⟩ := NW
 generalize Sb.release p = NR at *
 obtain ⟨r, fr⟩ := NR
 dsimp only at k1 k2 k3 k4 hs1 hs2
 have HS := H9 (And.intro hs1 hs2)
 have k9 := H9 fun W => zhw W
 clear hs1 hs2 hql
 obtain ⟨s, rfl, e1, e3, e4, e5, e7, _⟩ := ha
 rw [r142, e1, e3, e4, e5, e7]
 clear e1 e3 e4 e5 e7
 refine zec ?_
 intro _ _
 go_wp2_with (first | (refine zae rfl 48 (.tmp 5) rfl (w.heap.size) 0 rfl 48 (PL p A n c) S.b0 48 _ Tryz.underlying48 zah (show 0 + 48 ≤ 48 by decide) (PA p A n c) (by rfl) rfl ?_) | fail)
 refine (k1.out _ S.u).mono ?_
 rintro e w1 ⟨A1, n1, c1, rfl, hp1, hb1⟩
 replace S := S.later hb1
 clear hb1 k1
 have BZ : Blk (w1.alloc (Obj.cells (PA Sb.Pt.zero none 0 0) 48)) w1.heap.size 48 (PL Sb.Pt.zero none 0 0).toArray := Blk.new _ _ _
 go_upto_region 12 with (first | (refine zaf rfl 48 (.tmp 21) (.tmp 103) rfl (w1.heap.size) 0 rfl 48 (PL Sb.Pt.zero none 0 0) BZ (PL q A1 n1 c1) rfl zah (show 0 + 48 ≤ 48 by decide) rfl (PL q A1 n1 c1) rfl ?_; intro V1 B1 OB) | fail)
 have hbb := OB.below ((Below.refl _ w1).alloc (Nat.le_refl _) _) (by simp) (Nat.le_refl _)
 replace S := S.later hbb
 replace hp1 := hp1.later hbb
 replace B1 := H9 (show PB V1 w1.heap.size q A1 n1 c1 from B1)
 obtain ⟨g1, hg1⟩ : ∃ g, g = w1.heap.size := ⟨_, rfl⟩
 rw [← hg1] at B1 ⊢
 clear hg1 OB BZ hbb
 go_wp2_with (first | (refine zae rfl 48 (.tmp 5) rfl (w.heap.size) 0 rfl 48 (PL p A n c) S.b0 48 _ Tryz.underlying48 zah (show 0 + 48 ≤ 48 by decide) (PA p A n c) (by rfl) rfl ?_) | fail)
 refine (k2.out _ S.u).mono ?_
 rintro e w2 ⟨A2, n2, c2, rfl, hp2, hb1⟩
 replace S := S.later hb1
 replace hp1 := hp1.later hb1
 replace B1 := H9 (B1.out.later hb1)
 clear hb1 k2
 have BZ : Blk (w2.alloc (Obj.cells (PA Sb.Pt.zero none 0 0) 48)) w2.heap.size 48 (PL Sb.Pt.zero none 0 0).toArray := Blk.new _ _ _
 go_upto_region 13 with (first | (refine zaf rfl 48 (.tmp 23) (.tmp 109) rfl (w2.heap.size) 0 rfl 48 (PL Sb.Pt.zero none 0 0) BZ (PL q A2 n2 c2) rfl zah (show 0 + 48 ≤ 48 by decide) rfl (PL q A2 n2 c2) rfl ?_; intro V2 B2 OB) | fail)
 have hbb := OB.below ((Below.refl _ w2).alloc (Nat.le_refl _) _) (by simp) (Nat.le_refl _)
 replace S := S.later hbb
 replace B1 := H9 (B1.out.later hbb)
 replace hp1 := hp1.later hbb
 replace hp2 := hp2.later hbb
 replace B2 := H9 (show PB V2 w2.heap.size q A2 n2 c2 from B2)
 obtain ⟨g2, hg2⟩ : ∃ g, g = w2.heap.size := ⟨_, rfl⟩
 rw [← hg2] at B2 ⊢
 clear hg2 OB BZ hbb
 go_wp2_with (first | (refine zae rfl 48 (.tmp 5) rfl (w.heap.size) 0 rfl 48 (PL p A n c) S.b0 48 _ Tryz.underlying48 zah (show 0 + 48 ≤ 48 by decide) (PA p A n c) (by rfl) rfl ?_) | fail)
 refine (k3.out _ S.u).mono ?_
 rintro e w3 ⟨A3, n3, c3, rfl, hp3, hb1⟩
 replace S := S.later hb1
 replace hp1 := hp1.later hb1
 replace B1 := H9 (B1.out.later hb1)
 replace hp2 := hp2.later hb1
 replace B2 := H9 (B2.out.later hb1)
 clear hb1 k3
 have BZ : Blk (w3.alloc (Obj.cells (PA Sb.Pt.zero none 0 0) 48)) w3.heap.size 48 (PL Sb.Pt.zero none 0 0).toArray := Blk.new _ _ _
 go_upto_region 14 with (first | (refine zaf rfl 48 (.tmp 25) (.tmp 114) rfl (w3.heap.size) 0 rfl 48 (PL Sb.Pt.zero none 0 0) BZ (PL r A3 n3 c3) rfl zah (show 0 + 48 ≤ 48 by decide) rfl (PL r A3 n3 c3) rfl ?_; intro V3 B3 OB) | fail)
 have hbb := OB.below ((Below.refl _ w3).alloc (Nat.le_refl _) _) (by simp) (Nat.le_refl _)
 replace S := S.later hbb
 replace B1 := H9 (B1.out.later hbb)
 replace B2 := H9 (B2.out.later hbb)
 replace hp1 := hp1.later hbb
 replace hp2 := hp2.later hbb
 replace hp3 := hp3.later hbb
 replace B3 := H9 (show PB V3 w3.heap.size r A3 n3 c3 from B3)
 obtain ⟨g3, hg3⟩ : ∃ g, g = w3.heap.size := ⟨_, rfl⟩
 rw [← hg3] at B3 ⊢
 clear hg3 OB BZ hbb
 go_wp2_with (first | (refine zae rfl 48 (.tmp 5) rfl (w.heap.size) 0 rfl 48 (PL p A n c) S.b0 48 _ Tryz.underlying48 zah (show 0 + 48 ≤ 48 by decide) (PA p A n c) (by rfl) rfl ?_) | fail)
 refine (k4.out _ S.u).mono ?_
 rintro e w4 ⟨A4, n4, c4, rfl, hp4, hb1⟩
 replace S := S.later hb1
 replace hp1 := hp1.later hb1
 replace B1 := H9 (B1.out.later hb1)
 replace hp2 := hp2.later hb1
 replace B2 := H9 (B2.out.later hb1)
 replace hp3 := hp3.later hb1
 replace B3 := H9 (B3.out.later hb1)
 clear hb1 k4
 have BZ : Blk (w4.alloc (Obj.cells (PA Sb.Pt.zero none 0 0) 48)) w4.heap.size 48 (PL Sb.Pt.zero none 0 0).toArray := Blk.new _ _ _
 go_upto_region 15 with (first | (refine zaf rfl 48 (.tmp 27) (.tmp 119) rfl (w4.heap.size) 0 rfl 48 (PL Sb.Pt.zero none 0 0) BZ (PL r A4 n4 c4) rfl zah (show 0 + 48 ≤ 48 by decide) rfl (PL r A4 n4 c4) rfl ?_; intro V4 B4 OB) | fail)
 have hbb := OB.below ((Below.refl _ w4).alloc (Nat.le_refl _) _) (by simp) (Nat.le_refl _)
 replace S := S.later hbb
 replace B1 := H9 (B1.out.later hbb)
 replace B2 := H9 (B2.out.later hbb)
 replace B3 := H9 (B3.out.later hbb)
 replace hp1 := hp1.later hbb
 replace hp2 := hp2.later hbb
 replace hp3 := hp3.later hbb
 replace hp4 := hp4.later hbb
 replace B4 := H9 (show PB V4 w4.heap.size r A4 n4 c4 from B4)
 obtain ⟨g4, hg4⟩ : ∃ g, g = w4.heap.size := ⟨_, rfl⟩
 rw [← hg4] at B4 ⊢
 clear hg4 OB BZ hbb
 have hn1 := hp1.small HS.out.1
 have hn3 := hp3.small HS.out.2
 have k5 := H9 fun (V : World) (h1 : PW V q A1 n1) (h2 : PW V q A2 n2) => zcz (c := c1) (d := c2) h1 h2 hn1
 have k6 := H9 fun (V : World) (h1 : PW V r A3 n3) (h2 : PW V r A4 n4) => zcz (c := c3) (d := c4) h1 h2 hn3
 have HP := H9 (show PW V4 q A1 n1 ∧ PW V4 q A2 n2 ∧ PW V4 r A3 n3 ∧ PW V4 r A4 n4 from ⟨hp1, hp2, hp3, hp4⟩)
 clear hn1 hn3 hp1 hp2 hp3 hp4
 go_wp2_with (first | (refine zae rfl 48 (.tmp 21) rfl (g1) 0 rfl 48 (PL q A1 n1 c1) B1.out 48 _ Tryz.underlying48 zah (show 0 + 48 ≤ 48 by decide) (PA q A1 n1 c1) (by rfl) rfl ?_) | (refine zae rfl 48 (.tmp 23) rfl (g2) 0 rfl 48 (PL q A2 n2 c2) B2.out 48 _ Tryz.underlying48 zah (show 0 + 48 ≤ 48 by decide) (PA q A2 n2 c2) (by rfl) rfl ?_) | fail)
 refine (k5.out _ HP.out.1 HP.out.2.1).mono ?_
 rintro e w5 ⟨rfl, hb1⟩
 replace S := S.later hb1
 replace HP := H9 (show PW w5 r A3 n3 ∧ PW w5 r A4 n4 from ⟨HP.out.2.2.1.later hb1, HP.out.2.2.2.later hb1⟩)
 replace B3 := H9 (B3.out.later hb1)
 replace B4 := H9 (B4.out.later hb1)
 clear hb1 k5 B1 B2
 go_wp2_with (first | (refine zcp (by rfl) 48 (.tmp 25) rfl (g3) 0 rfl 48 (PL r A3 n3 c3) B3.out 48 _ Tryz.underlying48 zah (Nat.le_refl 48) (PA r A3 n3 c3) (by rfl) rfl ?_) | (refine zcp (by rfl) 48 (.tmp 27) rfl (g4) 0 rfl 48 (PL r A4 n4 c4) B4.out 48 _ Tryz.underlying48 zah (Nat.le_refl 48) (PA r A4 n4 c4) (by rfl) rfl ?_) | fail)
 refine (k6.out _ HP.out.1 HP.out.2).mono ?_
 rintro e w6 ⟨rfl, hb1⟩
 replace S := S.later hb1
 clear hb1 k6 HP B3 B4
 go_wp2_with fail
 refine (k9.out _).mono ?_
 rintro e w7 ⟨rfl, hb1⟩
 replace S := S.later hb1
 clear hb1 k9
 go_wp2_with fail
 go_ret
 exact ⟨rfl, S.u⟩
end Go.Proofs.YtahbecinkciahaaGreat
namespace Go.Proofs.YtahbecinkciahaaGreat
open Go.RowKit
theorem zlk {w : World} {p : Sb.Pt} {A : Option Addr} {l : List TW} {n c : Nat} {ZA : Option Addr} {zs : List Int} {zc : Nat} {codec code cl cm : Int} {X : Array Value} (hX : X = PA p A n c) (wf : p.wf) (hq : l.map TW.w = p.jt.q) (hn : l.length = n) (hcap : n ≤ c) (hcm : c ≤ maxLen) (hA : Wts w w.heap.size A l) (hK : ∀ a ∈ l, I64 a.w.m.sq) (hZ : IntsAt w w.heap.size .i16 ZA zs) (hzb : Within (-32768) 32767 zs) (c0 : 0 ≤ codec) (c1 : codec ≤ 255) : Calls Tryz.prog 5 #[.agg X, .int .u8 codec, .agg #[.int .i64 cl, .int .i64 cm], .slice ZA zs.length zc, .int .u8 code] w (fun e w' => e = .returned (.bool true) ∧ Below w.heap.size w w') :=
 zns hX wf hq hn hcap hcm hA hK hZ hzb c0 c1 fun _ a C S ha => ztk C S (fun _ a S ha => ztb C S (fun _ a S ha => zro C S a ha) a ha) a ha
end Go.Proofs.YtahbecinkciahaaGreat

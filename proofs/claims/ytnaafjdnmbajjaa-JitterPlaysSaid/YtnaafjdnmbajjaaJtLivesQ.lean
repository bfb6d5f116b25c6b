/- Layer 30: the examples that every law looks at. -/
import Derived.Test.YtnaafjdnmbajjaaJtLv2Q
import Derived.Test.YtnaafjdnmbajjaaJtLv5
import Derived.Test.YtnaafjdnmbajjaaOpenRowsQ
namespace Go.Proofs.Ytnaafjdnmbajjaa
open Go.RowKit
set_option linter.unusedVariables false
set_option linter.unusedSimpArgs false
attribute [local go_sem ↓] run_min_plain run_max_plain
attribute [local go_sem] setCell_drewN alloc_drewN
set_option maxRecDepth 100000 in
set_option maxHeartbeats 12800000 in
theorem lives_any (w : World) : Calls Try.prog 10 #[] w fun e w' => e = .returned (.bool true) ∧ Below w.heap.size w w' := by
  go_enter Try.func10, Try.ntmps10
  go_wp2_with fail
  refine (new_any 40 200 _).mono ?_
  rintro e w1 ⟨he, hb1⟩
  rw [lv_new] at he
  subst he
  simp only [JV, lv0]
  have U1 := Lib.hid hb1
  clear hb1
  go_wp2_with fail
  have SB1 : Hid (SBox (w1.alloc (.cells (JL lv0 none 0 0).toArray 26)) w1.heap.size lv0 none 0 []) := Lib.hid ⟨Blk.new w1 _ _, rfl, Nat.le_refl _, by unfold maxLen; omega, Wts.empty⟩
  have UW1 : Hid (Bel w (w1.alloc (.cells (JL lv0 none 0 0).toArray 26))) := Lib.hid (Bel.push U1.out _)
  have hgw := U1.out.size
  refine lvr2_wp w _ w1.heap.size 0 lv0 ⟨40, 200, 1000, true, 1040, 800, 5, -1, 0, 900, [⟨1040, lvA⟩], 0, 0, 0⟩ none [] [] 1 0 SB1.out UW1.out hgw (by simp) (fun x hx => by cases hx) lv_1 ?_
  rintro wa A2 c2 l2 A c l u22 u23 u24 u25 u26 u27 u28 u29 hm2 P2 KP SB2 UW2
  clear SB1 UW1 U1 KP P2 hm2
  have hl1 : l.length ≤ 100 := by have h9 := congrArg List.length SB2.out.q; simp at h9; omega
  go_wp2_with fail
  refine lvr3_wp w _ w1.heap.size c ⟨40, 200, 1000, true, 1040, 800, 5, -1, 0, 900, [⟨1040, lvA⟩], 0, 0, 0⟩ ⟨40, 200, 1030, true, 1040, 800, 7, -1, 10, 890, [⟨1040, lvA⟩, ⟨1080, lvB⟩], 0, 0, 0⟩ A l [] 1 0 SB2.out UW2.out hgw (by omega) (fun x hx => by simp at hx; subst hx; constructor <;> decide) lv_2 ?_
  rintro wb g2 A3 c3 l3 A4 c4 l4 u30 u31 u32 u33 u34 u35 u36 u37 hm3 P3 hg2 HB3 SC3 UW3
  have SB3 := Lib.hid (SB2.out.later HB3.out)
  clear SB2 UW2 HB3 P3 hm3
  have hl4 : l4.length ≤ 100 := by have h9 := congrArg List.length SC3.out.q; simp at h9; omega
  have b0 : wb.cell? ⟨g2, 0, none⟩ = some (.int .i64 40) := SC3.out.blk.at 0 _ rfl
  have b1 : wb.cell? ⟨g2, 1, none⟩ = some (.int .i64 200) := SC3.out.blk.at 1 _ rfl
  have b2 : wb.cell? ⟨g2, 2, none⟩ = some (.int .i64 1030) := SC3.out.blk.at 2 _ rfl
  have b3 : wb.cell? ⟨g2, 3, none⟩ = some (.bool true) := SC3.out.blk.at 3 _ rfl
  have b4 : wb.cell? ⟨g2, 4, none⟩ = some (.int .i64 1040) := SC3.out.blk.at 4 _ rfl
  have b5 : wb.cell? ⟨g2, 5, none⟩ = some (.int .i64 800) := SC3.out.blk.at 5 _ rfl
  have b6 : wb.cell? ⟨g2, 6, none⟩ = some (.int .i64 7) := SC3.out.blk.at 6 _ rfl
  have b7 : wb.cell? ⟨g2, 7, none⟩ = some (.int .i64 (-1)) := SC3.out.blk.at 7 _ rfl
  have b8 : wb.cell? ⟨g2, 8, none⟩ = some (.int .i64 10) := SC3.out.blk.at 8 _ rfl
  have b9 : wb.cell? ⟨g2, 9, none⟩ = some (.int .i64 890) := SC3.out.blk.at 9 _ rfl
  have b10 : wb.cell? ⟨g2, 10, none⟩ = some (.slice A4 l4.length c4) := SC3.out.blk.at 10 _ rfl
  have b11 : wb.cell? ⟨g2, 11, none⟩ = some (.int .i64 0) := SC3.out.blk.at 11 _ rfl
  have b12 : wb.cell? ⟨g2, 12, none⟩ = some (.int .i64 0) := SC3.out.blk.at 12 _ rfl
  have b13 : wb.cell? ⟨g2, 13, none⟩ = some (.int .i64 0) := SC3.out.blk.at 13 _ rfl
  have hgl := SC3.out.blk.lt
  go_wp2_with fail
  refine (jrun_st ⟨40, 200, 1030, true, 1040, 800, 7, -1, 10, 890, [⟨1040, lvA⟩, ⟨1080, lvB⟩], 0, 0, 0⟩ A4 l4 l4.length c4 1080 wb SC3.out.q rfl (by omega) SC3.out.cap SC3.out.cm SC3.out.wts (keys_small SC3.out.q (fun x hx => by simp at hx; rcases hx with rfl | rfl <;> (constructor <;> decide)))).mono ?_
  rintro e w4 hjr
  obtain ⟨A5, c5, l5, A6, c6, l6, rfl, h1, h2, h3, h4, h5, h6, hb4⟩ := run_e lv_3 hjr
  simp only [JL]
  have hl5 : l5.length = 2 := by have h9 := congrArg List.length h1; simpa using h9
  rw [hl5]
  have SB4 := Lib.hid (SB3.out.later hb4)
  have UW4 := Lib.hid (UW3.out.later hb4)
  have P5 := Lib.hid h3
  have P5q := Lib.hid h1
  have HL5 := Lib.hid hl5
  clear SB3 SC3 UW3 hgl hb4 hjr h1 h3 hl4 b0 b1 b2 b3 b4 b5 b6 b7 b8 b9 b10 b11 b12 b13
  have SD5 : Hid (SBox (w4.alloc (.cells (JL ⟨40, 200, 1080, true, 1040, 800, 7, 7, 10, 890, [], 0, 0, 2⟩ A6 l6.length c6).toArray 26)) w4.heap.size ⟨40, 200, 1080, true, 1040, 800, 7, 7, 10, 890, [], 0, 0, 2⟩ A6 c6 l6) := Lib.hid (SBox.new h2 h5 h6 h4)
  have UW5 : Hid (Bel w (w4.alloc (.cells (JL ⟨40, 200, 1080, true, 1040, 800, 7, 7, 10, 890, [], 0, 0, 2⟩ A6 l6.length c6).toArray 26))) := Lib.hid (Bel.push UW4.out _)
  have SB5 : Hid (SBox (w4.alloc (.cells (JL ⟨40, 200, 1080, true, 1040, 800, 7, 7, 10, 890, [], 0, 0, 2⟩ A6 l6.length c6).toArray 26)) w1.heap.size ⟨40, 200, 1000, true, 1040, 800, 5, -1, 0, 900, [⟨1040, lvA⟩], 0, 0, 0⟩ A c l) := Lib.hid (SB4.out.push _)
  have P6 : Hid (Wts (w4.alloc (.cells (JL ⟨40, 200, 1080, true, 1040, 800, 7, 7, 10, 890, [], 0, 0, 2⟩ A6 l6.length c6).toArray 26)) (w4.alloc (.cells (JL ⟨40, 200, 1080, true, 1040, 800, 7, 7, 10, 890, [], 0, 0, 2⟩ A6 l6.length c6).toArray 26)).heap.size A5 l5) := Lib.hid (P5.out.push _)
  have hl6 : l6.length ≤ 100 := by have h9 := congrArg List.length h2; rw [List.length_map] at h9; have h8 : l6.length = 0 := h9; omega
  have hgw3 := UW4.out.size
  clear h2 h4 h5 h6 hl5 SB4 UW4 P5
  go_wp2_with fail
  refine lvr5_wp w _ w4.heap.size c6 ⟨40, 200, 1080, true, 1040, 800, 7, 7, 10, 890, [], 0, 0, 2⟩ ⟨40, 200, 1081, true, 1040, 800, 7, 7, 10, 890, [], 1, 0, 2⟩ A6 l6 [] 2 0 SD5.out UW5.out hgw3 (by omega) (fun x hx => by cases hx) lv_4 ?_
  rintro wd g9 A9 c9 l9 A8 c8 l8 u44 u45 u46 u47 u48 u49 u50 u51 hm9 P9 hg9 HB9 SC9 UW9
  have SB6 := Lib.hid (SB5.out.later HB9.out)
  have P7 := Lib.hid (P6.out.later HB9.out)
  clear SB5 SD5 UW5 P6 HB9 P9 SC9 hm9
  have b4 : wd.cell? ⟨w1.heap.size, 4, none⟩ = some (.int .i64 1040) := SB6.out.blk.at 4 _ rfl
  have b5 : wd.cell? ⟨w1.heap.size, 5, none⟩ = some (.int .i64 800) := SB6.out.blk.at 5 _ rfl
  go_wp2_with fail
  refine (media_any 5 800 _).mono ?_
  rintro e wf ⟨rfl, hbf⟩
  have P8 := Lib.hid (P7.out.later hbf)
  have UWf := Lib.hid (UW9.out.later hbf)
  clear hbf b4 b5
  go_wp2_with fail
  refine (media_any 7 1120 _).mono ?_
  rintro e wg ⟨rfl, hbg⟩
  have P9 := Lib.hid (P8.out.later hbg)
  have UWg := Lib.hid (UWf.out.later hbg)
  clear hbg
  go_wp2_with fail
  refine (rsw_any A5 (some ⟨wg.heap.size, 0, none⟩) l5 [⟨⟨1040, lvA⟩, none, 0⟩, ⟨⟨1080, lvB⟩, none, 0⟩] 2 c5 2 _ HL5.out P5q.out (by omega) (P9.out.push _) ⟨RowsAt.lit0 wg 50 TW.row _ _ (by rfl) row_len, fun a ha => by simp at ha; rcases ha with rfl | rfl <;> exact IntsAt.nil⟩).mono ?_
  rintro e wh ⟨rfl, hbh⟩
  have UWh := Lib.hid ((Bel.push UWg.out _).later hbh)
  clear hbh
  go_wp2_with fail
  go_ret
  exact ⟨by first | rfl | simp, UWh.out⟩
end Go.Proofs.Ytnaafjdnmbajjaa
/- The types of layer 30's arguments. -/
namespace Go.Proofs.Ytnaafjdnmbajjaa
open Go.ChangeShapes Go.WideShapes Go.ChangeAt Go.RowKit Go.Deep
set_option linter.unusedVariables false
/-- the numbers of a waiting packet that came in -/
def TW.ok (w : World) (a : TW) : Prop := I64 a.w.at_ ∧ I64 a.w.m.sq ∧ I64 a.w.m.ti ∧ a.w.m.pl.length ≤ a.c ∧ IntsAt w w.heap.size .u8 a.B a.w.m.pl
theorem i64_of {z : Int} (h : (Lit.int .i64 z).wf = true) : I64 z := by
  have e1 : IntKind.i64.min = -9223372036854775808 := by decide
  have e2 : IntKind.i64.max = 9223372036854775807 := by decide
  simp [Lit.wf, e1, e2] at h
  exact h
section
variable {H : Type} {enc : TypeId × Value → H} {w : World} {base : Nat} {spare : Nat → Bool} {held : Bool}
theorem TW.of_trod (n : Nat) (cs : List Value) (x : DataW H × List MemPlace) (h : DataW.trod enc Try.prog w base spare held n 50 cs = some x) : ∃ a : TW, cs = a.row ∧ a.ok w := by
  obtain ⟨hl, hf⟩ := flat_trod 12 n 50 [3, 2, 2, 4, 5, 27] cs x (by kernel_rfl) h
  obtain ⟨c0, h0, l0⟩ := hf 0 _ rfl
  obtain ⟨z0, rfl, w0⟩ := l0.int Try.underlying3
  obtain ⟨c1, h1, l1⟩ := hf 1 _ rfl
  obtain ⟨z1, rfl, w1⟩ := l1.int Try.underlying2
  obtain ⟨c2, h2, l2⟩ := hf 2 _ rfl
  obtain ⟨z2, rfl, w2⟩ := l2.int Try.underlying2
  obtain ⟨c3, h3, l3⟩ := hf 3 _ rfl
  obtain ⟨z3, rfl⟩ := l3.bool Try.underlying4
  obtain ⟨c4, h4, l4⟩ := hf 4 _ rfl
  obtain ⟨z4, rfl, w4⟩ := l4.int Try.underlying5
  obtain ⟨c5, h5, l5⟩ := hf 5 _ rfl
  obtain ⟨A5, z5, cap5, rfl, e5, f5, g5, w5⟩ := l5.ints Try.underlying27 Try.underlying5 (by kernel_rfl)
  exact ⟨⟨⟨z0, ⟨z1, z2, z3, z4, z5⟩⟩, A5, cap5⟩, AllAt.eq ⟨h0, h1, h2, h3, h4, h5, trivial⟩ hl, i64_of w0, i64_of w1, i64_of w2, e5, g5⟩
theorem md_open {r : Reach} {b0 : Nat} {v : Value} {d : DataW H} {p : List MemPlace} (hv : Value.okWide Try.prog w r b0 29 v) (h : DataW.Trod enc Try.prog w base spare held 29 v d p) : ∃ (m : Jb.Md) (A : Option Addr) (c : Nat), v = .agg #[.int .i64 m.sq, .int .i64 m.ti, .bool m.mrk, .int .u8 m.ty, .slice A m.pl.length c] ∧ I64 m.sq ∧ I64 m.ti ∧ m.pl.length ≤ c ∧ IntsAt w w.heap.size .u8 A m.pl := by
  obtain ⟨cs, rfl, _⟩ := okWide_struct Try.underlying29 hv
  obtain ⟨n, h⟩ := h
  obtain ⟨hl, hf⟩ := flat_trod 12 n 29 [2, 2, 4, 5, 27] _ _ (by kernel_rfl) h
  obtain ⟨c0, h0, l0⟩ := hf 0 _ rfl
  obtain ⟨z0, rfl, w0⟩ := l0.int Try.underlying2
  obtain ⟨c1, h1, l1⟩ := hf 1 _ rfl
  obtain ⟨z1, rfl, w1⟩ := l1.int Try.underlying2
  obtain ⟨c2, h2, l2⟩ := hf 2 _ rfl
  obtain ⟨z2, rfl⟩ := l2.bool Try.underlying4
  obtain ⟨c3, h3, l3⟩ := hf 3 _ rfl
  obtain ⟨z3, rfl, w3⟩ := l3.int Try.underlying5
  obtain ⟨c4, h4, l4⟩ := hf 4 _ rfl
  obtain ⟨A4, z4, cap4, rfl, e4, f4, g4, w4⟩ := l4.ints Try.underlying27 Try.underlying5 (by kernel_rfl)
  refine ⟨⟨z0, z1, z2, z3, z4⟩, A4, cap4, ?_, i64_of w0, i64_of w1, e4, g4⟩
  have ha : (Value.agg cs).cells.toList = [.int .i64 z0, .int .i64 z1, .bool z2, .int .u8 z3, .slice A4 z4.length cap4] := AllAt.eq ⟨h0, h1, h2, h3, h4, trivial⟩ hl
  have : cs.toList = [.int .i64 z0, .int .i64 z1, .bool z2, .int .u8 z3, .slice A4 z4.length cap4] := by simpa [Value.cells] using ha
  rw [← this]
theorem jt_open {r : Reach} {b0 : Nat} {v : Value} {d : DataW H} {p : List MemPlace} (hv : Value.okWide Try.prog w r b0 26 v) (h : DataW.Trod enc Try.prog w base spare held 26 v d p) : ∃ (s : Jb.Jt) (A : Option Addr) (l : List TW) (c : Nat), v = .agg #[.int .i64 s.least, .int .i64 s.most, .int .i64 s.now, .bool s.on, .int .i64 s.zero, .int .i64 s.first, .int .i64 s.high, .int .i64 s.done, .int .i64 s.spread, .int .i64 s.trans, .slice A l.length c, .int .i64 s.late, .int .i64 s.twice, .int .i64 s.played] ∧ l.map TW.w = s.q ∧ l.length ≤ c ∧ c ≤ maxLen ∧ Wts w w.heap.size A l ∧ (∀ a ∈ l, TW.ok w a) := by
  obtain ⟨cs, rfl, _⟩ := okWide_struct Try.underlying26 hv
  obtain ⟨n, h⟩ := h
  obtain ⟨hl, hf⟩ := flat_trod 20 n 26 [3, 3, 3, 4, 3, 2, 2, 2, 3, 3, 24, 3, 3, 3] _ _ (by kernel_rfl) h
  obtain ⟨c0, h0, l0⟩ := hf 0 _ rfl
  obtain ⟨z0, rfl, w0⟩ := l0.int Try.underlying3
  obtain ⟨c1, h1, l1⟩ := hf 1 _ rfl
  obtain ⟨z1, rfl, w1⟩ := l1.int Try.underlying3
  obtain ⟨c2, h2, l2⟩ := hf 2 _ rfl
  obtain ⟨z2, rfl, w2⟩ := l2.int Try.underlying3
  obtain ⟨c3, h3, l3⟩ := hf 3 _ rfl
  obtain ⟨z3, rfl⟩ := l3.bool Try.underlying4
  obtain ⟨c4, h4, l4⟩ := hf 4 _ rfl
  obtain ⟨z4, rfl, w4⟩ := l4.int Try.underlying3
  obtain ⟨c5, h5, l5⟩ := hf 5 _ rfl
  obtain ⟨z5, rfl, w5⟩ := l5.int Try.underlying2
  obtain ⟨c6, h6, l6⟩ := hf 6 _ rfl
  obtain ⟨z6, rfl, w6⟩ := l6.int Try.underlying2
  obtain ⟨c7, h7, l7⟩ := hf 7 _ rfl
  obtain ⟨z7, rfl, w7⟩ := l7.int Try.underlying2
  obtain ⟨c8, h8, l8⟩ := hf 8 _ rfl
  obtain ⟨z8, rfl, w8⟩ := l8.int Try.underlying3
  obtain ⟨c9, h9, l9⟩ := hf 9 _ rfl
  obtain ⟨z9, rfl, w9⟩ := l9.int Try.underlying3
  obtain ⟨c10, h10, l10⟩ := hf 10 _ rfl
  obtain ⟨A, l, cap, rfl, e10, f10, hR, hok⟩ := l10.rows (row := TW.row) (ok := TW.ok w) Try.underlying24 (by kernel_rfl : Try.prog.cellsOf 50 = 6) (by decide) (fun n cs x h => TW.of_trod n cs x h)
  obtain ⟨c11, h11, l11⟩ := hf 11 _ rfl
  obtain ⟨z11, rfl, w11⟩ := l11.int Try.underlying3
  obtain ⟨c12, h12, l12⟩ := hf 12 _ rfl
  obtain ⟨z12, rfl, w12⟩ := l12.int Try.underlying3
  obtain ⟨c13, h13, l13⟩ := hf 13 _ rfl
  obtain ⟨z13, rfl, w13⟩ := l13.int Try.underlying3
  refine ⟨⟨z0, z1, z2, z3, z4, z5, z6, z7, z8, z9, l.map TW.w, z11, z12, z13⟩, A, l, cap, ?_, rfl, e10, f10, ⟨hR, fun a ha => (hok a ha).2.2.2.2⟩, hok⟩
  have ha : (Value.agg cs).cells.toList = [.int .i64 z0, .int .i64 z1, .int .i64 z2, .bool z3, .int .i64 z4, .int .i64 z5, .int .i64 z6, .int .i64 z7, .int .i64 z8, .int .i64 z9, .slice A l.length cap, .int .i64 z11, .int .i64 z12, .int .i64 z13] := AllAt.eq ⟨h0, h1, h2, h3, h4, h5, h6, h7, h8, h9, h10, h11, h12, h13, trivial⟩ hl
  have : cs.toList = [.int .i64 z0, .int .i64 z1, .int .i64 z2, .bool z3, .int .i64 z4, .int .i64 z5, .int .i64 z6, .int .i64 z7, .int .i64 z8, .int .i64 z9, .slice A l.length cap, .int .i64 z11, .int .i64 z12, .int .i64 z13] := by simpa [Value.cells] using ha
  rw [← this]
end
end Go.Proofs.Ytnaafjdnmbajjaa

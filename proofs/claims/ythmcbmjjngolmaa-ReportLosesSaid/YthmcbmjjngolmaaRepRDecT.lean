/- Layer 26: Decode of the reference: a report whose sender is true. -/
import Derived.Test.YthmcbmjjngolmaaRepRDec1
import Derived.Test.YthmcbmjjngolmaaStep
import Derived.Deep.CutRange
import Derived.Deep.DeepCutAuto
import Derived.Deep.AppendLies
import Derived.Deep.RegionLaw
namespace Go.Proofs.Ythmcbmjjngolmaa
open Go.RowKit
set_option linter.unusedVariables false
set_option linter.unusedSimpArgs false
attribute [local go_sem] setCell_drewN alloc_drewN
section
variable (A : Option Addr) (bs : List Int) (c : Nat) (w : World)
set_option maxRecDepth 100000 in
set_option maxHeartbeats 6400000 in
theorem rDec_ok_true (hA : IntsAt w w.heap.size .u8 A bs) (hz : Within 0 255 bs) (hm : bs.length ≤ maxLen) (hc : bs.length ≤ c) (mm : Nat) (h : 4 ≤ bs.length) (h2 : bs.getD 0 0 / 32 = 4) (hmm : bs.getD 0 0 % 32 = (mm : Int)) (h3 : bs.getD 1 0 = 200) (h4' : 256 * bs.getD 2 0 + bs.getD 3 0 + 1 = 7 + 6 * (mm : Int)) (h5 : 28 + 24 * mm ≤ bs.length) : Calls Try.prog 23 #[.slice A bs.length c] w (DecR (Rep.Rpt.of bs true mm, 4 * (7 + 6 * (mm : Int)), 0) w) := by
  have h4 : ¬bs.length < 4 := by omega
  have hf2 := fld_two bs 2 (by omega)
  have hA0 := hA
  obtain ⟨b, off, rfl, hbB, hcell⟩ := hA (by omega)
  have q0 := (cell_new_old (cell_new_old (show w.cell? ⟨b, off, none⟩ = some (.int .u8 (bs.getD 0 0)) from hcell 0 (by omega)) (.cells #[.bool false, .int .u32 0, .int .u64 0, .int .u32 0, .int .u32 0, .int .u32 0, .slice none 0 0] 47)) (.cells #[.bool false, .int .u32 0, .int .u64 0, .int .u32 0, .int .u32 0, .int .u32 0, .slice none 0 0] 47))
  have q1 := (cell_new_old (cell_new_old (show w.cell? ⟨b, off + 1, none⟩ = some (.int .u8 (bs.getD 1 0)) from hcell 1 (by omega)) (.cells #[.bool false, .int .u32 0, .int .u64 0, .int .u32 0, .int .u32 0, .int .u32 0, .slice none 0 0] 47)) (.cells #[.bool false, .int .u32 0, .int .u64 0, .int .u32 0, .int .u32 0, .int .u32 0, .slice none 0 0] 47))
  have q0c := cell_new_old q0 (.cells #[.bool true, .int .u32 0, .int .u64 0, .int .u32 0, .int .u32 0, .int .u32 0, .slice none 0 0] 47)
  obtain ⟨m0, n0⟩ := hz.at (i := 0) (by omega)
  obtain ⟨m1, n1⟩ := hz.at (i := 1) (by omega)
  obtain ⟨m2, n2⟩ := hz.at (i := 2) (by omega)
  obtain ⟨m3, n3⟩ := hz.at (i := 3) (by omega)
  generalize bs.getD 0 0 = x0 at *
  generalize bs.getD 1 0 = x1 at *
  generalize bs.getD 2 0 = x2 at *
  generalize bs.getD 3 0 = x3 at *
  have HM := Lib.hid hm
  unfold maxLen at hm
  have HB := Lib.hid hz
  have HA : Hid (IntsAt w w.heap.size .u8 (some ⟨b, off, none⟩) bs) := Lib.hid hA0
  clear hA hA0 hz hcell
  have t0 : (0 : Int) < (bs.length : Int) := by omega
  have t1 : (1 : Int) < (bs.length : Int) := by omega
  have k1 : (x0 / 32 != 4) = false := by simp [h2]
  have k1b : x0.tdiv 32 = 4 := by rw [Int.tdiv_eq_ediv_of_nonneg m0]; exact h2
  have k1c : x0.tmod 32 = (mm : Int) := by rw [Int.tmod_eq_emod_of_nonneg m0]; exact hmm
  have hmb : (mm : Int) ≤ 31 := by omega
  have ks := Lib.hid fun W => rSize_any true mm W (by omega)
  obtain ⟨S, hS⟩ : ∃ S, S = Rep.sizeR true mm := ⟨_, rfl⟩
  rw [← hS] at ks
  have hS2 : S = 4 * (7 + 6 * (mm : Int)) := by rw [hS]; unfold Rep.sizeR; simp; omega
  clear hS h2
  subst h3
  obtain ⟨Q, hQ⟩ : ∃ Q, Q = 7 + 6 * (mm : Int) := ⟨_, rfl⟩
  have k6 : S.tdiv 4 = Q := by rw [hS2, hQ]; exact Int.mul_tdiv_cancel_left _ (by decide)
  have k6b : S / 4 = Q := by omega
  have hQ0 : 2 ≤ Q := by omega
  have hQ1 : Q ≤ 300 := by omega
  have hS0 : 8 ≤ S := by omega
  have hS1 : S ≤ 1200 := by omega
  obtain ⟨f, hf⟩ : ∃ f, f = fld bs 2 2 := ⟨_, rfl⟩
  rw [← hf] at hf2
  have hf0 : 0 ≤ f := by omega
  have hf1 : f ≤ 65535 := by omega
  have HF := Lib.hid hf
  clear hf
  have k5 : (f != Q - 1) = false := by simp; omega
  have k7 : S ≤ (bs.length : Int) := by rw [hS2]; omega
  rw [← hS2]
  have d2 : (2 : Int) ≤ (c : Int) := by omega
  have d4 : (4 : Int) ≤ (c : Int) := by omega
  have n2' : ¬c = 2 := by omega
  have d8 : (8 : Int) ≤ (c : Int) := by omega
  have n4' : ¬c = 4 := by omega
  have d16 : (16 : Int) ≤ (c : Int) := by omega
  have d20 : (20 : Int) ≤ (c : Int) := by omega
  have d24 : (24 : Int) ≤ (c : Int) := by omega
  have d28 : (28 : Int) ≤ (c : Int) := by omega
  have n8' : ¬c = 8 := by omega
  have n16' : ¬c = 16 := by omega
  have n20' : ¬c = 20 := by omega
  have n24' : ¬c = 24 := by omega
  have HS2 := Lib.hid hS2
  have HQ := Lib.hid hQ
  have HMM := Lib.hid hmm
  clear hS2 hQ hmm h4' hf2
  go_enter Try.func23, Try.ntmps23
  have U := Lib.hid (Bel.push (Bel.push (Bel.push (Bel.refl w) (.cells #[.bool false, .int .u32 0, .int .u64 0, .int .u32 0, .int .u32 0, .int .u32 0, .slice none 0 0] 47)) (.cells #[.bool false, .int .u32 0, .int .u64 0, .int .u32 0, .int .u32 0, .int .u32 0, .slice none 0 0] 47)) (.cells #[.bool true, .int .u32 0, .int .u64 0, .int .u32 0, .int .u32 0, .int .u32 0, .slice none 0 0] 47))
  have B := Lib.hid (Blk.push (Blk.push (Blk.new w 47 #[.bool false, .int .u32 0, .int .u64 0, .int .u32 0, .int .u32 0, .int .u32 0, .slice none 0 0]) (.cells #[.bool false, .int .u32 0, .int .u64 0, .int .u32 0, .int .u32 0, .int .u32 0, .slice none 0 0] 47)) (.cells #[.bool true, .int .u32 0, .int .u64 0, .int .u32 0, .int .u32 0, .int .u32 0, .slice none 0 0] 47))
  have B2 := Lib.hid (Blk.new2 w (.cells #[.bool false, .int .u32 0, .int .u64 0, .int .u32 0, .int .u32 0, .int .u32 0, .slice none 0 0] 47) (.cells #[.bool false, .int .u32 0, .int .u64 0, .int .u32 0, .int .u32 0, .int .u32 0, .slice none 0 0] 47) 47 #[.bool true, .int .u32 0, .int .u64 0, .int .u32 0, .int .u32 0, .int .u32 0, .slice none 0 0])
  go_wp2_with fail
  refine (ks.out _).mono ?_
  rintro e w1 ⟨rfl, rfl⟩
  have HA3 := Lib.hid (((HA.out.alloc (Nat.le_refl _) (.cells #[.bool false, .int .u32 0, .int .u64 0, .int .u32 0, .int .u32 0, .int .u32 0, .slice none 0 0] 47)).alloc (by simp) (.cells #[.bool false, .int .u32 0, .int .u64 0, .int .u32 0, .int .u32 0, .int .u32 0, .slice none 0 0] 47)).alloc (by rw [size_alloc2]; omega) (.cells #[.bool true, .int .u32 0, .int .u64 0, .int .u32 0, .int .u32 0, .int .u32 0, .slice none 0 0] 47))
  go_wp2_with fail
  refine (value_sub (i := 2) (m := 2) HA3.out HB.out (by omega) (by omega) rfl).mono ?_
  rintro e w1 ⟨rfl, rfl⟩
  rw [← HF.out]
  obtain ⟨W, hW⟩ : ∃ W, W = ((w.alloc (.cells #[.bool false, .int .u32 0, .int .u64 0, .int .u32 0, .int .u32 0, .int .u32 0, .slice none 0 0] 47)).alloc (.cells #[.bool false, .int .u32 0, .int .u64 0, .int .u32 0, .int .u32 0, .int .u32 0, .slice none 0 0] 47)).alloc (.cells #[.bool true, .int .u32 0, .int .u64 0, .int .u32 0, .int .u32 0, .int .u32 0, .slice none 0 0] 47) := ⟨_, rfl⟩
  rw [← hW]
  have R : Hid (RState w W [.bool true, .int .u32 0, .int .u64 0, .int .u32 0, .int .u32 0, .int .u32 0, .slice none 0 0]) := by rw [hW]; exact Lib.hid ⟨B2.out, B.out, U.out, by simp⟩
  clear hW U B B2 HA3 q0 q0c q1 k1 k1b k1c n2'
  obtain ⟨ma, mb⟩ := fld_mod bs 4 HB.out (by omega)
  go_wp2_with fail
  clear k5 k6 k6b hf0 hf1 HF
  refine (value_sub (i := 4) (m := 4) (HA.out.below R.out.hu) HB.out (by omega) (by omega) rfl).mono ?_
  rintro e w1 ⟨rfl, rfl⟩
  have z := R.out.hr.frozen
  have r1 := R.out.hr.at 1 _ rfl
  have r0 := R.out.hr.at 0 _ rfl
  go_wp2_with fail
  clear z r1 ma mb r0
  have R' : Hid (RState w _ [.bool true, .int .u32 (fld bs 4 4), .int .u64 0, .int .u32 0, .int .u32 0, .int .u32 0, .slice none 0 0]) := Lib.hid (R.out.set 1 (.int .u32 (fld bs 4 4)))
  clear R
  have R := R'
  clear R'
  refine (value_sub (i := 8) (m := 8) (HA.out.below R.out.hu) HB.out (by omega) (by omega) rfl).mono ?_
  rintro e w1 ⟨rfl, rfl⟩
  have z := R.out.hr.frozen
  have r2 := R.out.hr.at 2 _ rfl
  go_wp2_with fail
  clear z r2 
  have R' : Hid (RState w _ [.bool true, .int .u32 (fld bs 4 4), .int .u64 (fld bs 8 8), .int .u32 0, .int .u32 0, .int .u32 0, .slice none 0 0]) := Lib.hid (R.out.set 2 (.int .u64 (fld bs 8 8)))
  clear R
  have R := R'
  clear R'
  obtain ⟨ma, mb⟩ := fld_mod bs 16 HB.out (by omega)
  refine (value_sub (i := 16) (m := 4) (HA.out.below R.out.hu) HB.out (by omega) (by omega) rfl).mono ?_
  rintro e w1 ⟨rfl, rfl⟩
  have z := R.out.hr.frozen
  have r3 := R.out.hr.at 3 _ rfl
  go_wp2_with fail
  clear z r3 ma mb
  have R' : Hid (RState w _ [.bool true, .int .u32 (fld bs 4 4), .int .u64 (fld bs 8 8), .int .u32 (fld bs 16 4), .int .u32 0, .int .u32 0, .slice none 0 0]) := Lib.hid (R.out.set 3 (.int .u32 (fld bs 16 4)))
  clear R
  have R := R'
  clear R'
  obtain ⟨ma, mb⟩ := fld_mod bs 20 HB.out (by omega)
  refine (value_sub (i := 20) (m := 4) (HA.out.below R.out.hu) HB.out (by omega) (by omega) rfl).mono ?_
  rintro e w1 ⟨rfl, rfl⟩
  have z := R.out.hr.frozen
  have r4 := R.out.hr.at 4 _ rfl
  go_wp2_with fail
  clear z r4 ma mb
  have R' : Hid (RState w _ [.bool true, .int .u32 (fld bs 4 4), .int .u64 (fld bs 8 8), .int .u32 (fld bs 16 4), .int .u32 (fld bs 20 4), .int .u32 0, .slice none 0 0]) := Lib.hid (R.out.set 4 (.int .u32 (fld bs 20 4)))
  clear R
  have R := R'
  clear R'
  obtain ⟨ma, mb⟩ := fld_mod bs 24 HB.out (by omega)
  refine (value_sub (i := 24) (m := 4) (HA.out.below R.out.hu) HB.out (by omega) (by omega) rfl).mono ?_
  rintro e w1 ⟨rfl, rfl⟩
  have z := R.out.hr.frozen
  have r5 := R.out.hr.at 5 _ rfl
  go_wp2_with fail
  clear z r5 ma mb
  have R' : Hid (RState w _ [.bool true, .int .u32 (fld bs 4 4), .int .u64 (fld bs 8 8), .int .u32 (fld bs 16 4), .int .u32 (fld bs 20 4), .int .u32 (fld bs 24 4), .slice none 0 0]) := Lib.hid (R.out.set 5 (.int .u32 (fld bs 24 4)))
  clear R
  have R := R'
  clear R'
  go_loopg [9, 10] mm (fun gk s9 s10 wr => ∃ (k : Nat) (A' : Option Addr) (c' : Nat), gk + k = mm ∧ s9 = .int .i64 k ∧ Hid (RState w wr [.bool true, .int .u32 (fld bs 4 4), .int .u64 (fld bs 8 8), .int .u32 (fld bs 16 4), .int .u32 (fld bs 20 4), .int .u32 (fld bs 24 4), .slice A' k c']) ∧ Hid (Owns wr (w.heap.size + 3) 27 7 A' k c' (((List.range k).map fun i => Rep.blockAt bs (28 + 24 * i)).flatMap Rep.Bk.cells)))
  case atStart => exact ⟨0, none, 0, rfl, rfl, R, Lib.hid Owns.nil⟩
  case round =>
    clear R
    obtain ⟨k, A', c', hgk, rfl, R, HO⟩ := hrel
    by_cases hlt : k < mm
    · obtain ⟨q, hq⟩ : ∃ q, q = 28 + 24 * k := ⟨_, rfl⟩
      have hql : q + 24 ≤ bs.length := by omega
      have hat : S - 24 * ((mm : Int) - (k : Int)) = (q : Int) := by have := HS2.out; omega
      have HQ2 := Lib.hid hq
      have hq0 : 8 ≤ q := by omega
      clear hq
      have hi0 : (0 : Int) ≤ (k : Int) := by omega
      have hi1 : (k : Int) < (mm : Int) := by omega
      have hw1 := i64_small ((q : Int) + 24) (by omega) (by omega)
      have htn : ((q : Int) + 24).toNat = q + 24 := by omega
      have hqq : q + 24 - q = 24 := by omega
      have e0 : 0 ≤ (q : Int) + 24 := by omega
      have e4 : q ≤ q + 24 := by omega
      have e1 : (q : Int) + 24 ≤ (c : Int) := by omega
      have e2 : (q : Int) ≤ (c : Int) := by omega
      have e3 : ¬c = q := by omega
      have r6 := R.out.hr.at 6 _ rfl
      have z := R.out.hr.frozen
      have hs3 := R.out.hs
      go_wp2_with fail
      obtain ⟨y, hy⟩ : ∃ y, y = Rep.blockAt bs q := ⟨_, rfl⟩
      obtain ⟨y0, y1, y2, y3, y4, y5, y6⟩ := y
      have kb := fun W hB hA => rblock_at b off (c - q) q bs W w.heap.size hB hA HB.out hql (by omega)
      simp only [← hy, Rep.Bk.cells] at kb
      have KB := Lib.hid kb
      have HY := Lib.hid hy
      clear hy kb
      have IA := Lib.hid (HA.out.below R.out.hu)
      have h2s : w.heap.size + 2 < wr.heap.size := by omega
      go_region_law (first
        | (refine step_append_one 111 (by rfl) (by rfl) _ _ 45 (by rfl) (w.heap.size + 3) 27 7 32 _ Try.underlying45 info_bk rfl (by decide) A' k c' _ (by rfl) (Owns.alloc HO2 _) v1.heap.size [.int .u32 y0, .int .u8 y1, .int .i64 y2, .int .u32 y3, .int .u32 y4, .int .u32 y5, .int .u32 y6] rfl (by simp [Value.oneCell']) (by rfl) (Blk.new v1 _ _) (by unfold maxLen; omega) (by omega) (by simp; omega) ?_; intro An cn wn hown hgr; have R3 := (R2.push _).grown hgr (fun g e => (HO2.block g e).1); have r6' := R3.hr.at 6 _ rfl; have z' := R3.hr.frozen)
        | (go_simp; go_at_call 37; refine (KB.out wr.drew (by simp; omega) IA.out).mono ?_; rintro e v1 ⟨rfl, hb⟩; have hsv : w.heap.size + 3 ≤ v1.heap.size := Nat.le_trans hs3 hb.size; have R2 := R.out.drew.later hb; have HO2 := HO.out.drew.below hb; have r6'' : v1.cell? ⟨w.heap.size + 2, 6, none⟩ = some (.slice A' k c') := R2.hr.at 6 _ rfl; have h2s' : w.heap.size + 2 < v1.heap.size := by omega))
      all_goals
        go_wp2_with fail
        go_roundg (gk - 1)
        case measure => omega
        case rel =>
          refine ⟨k + 1, An, cn, by omega, by go_num, Lib.hid (R3.set 6 (.slice An (k + 1) cn)), ?_⟩
          rw [blocks_step, ← HQ2.out, ← HY.out]
          exact Lib.hid (hown.setCell (p := ⟨w.heap.size + 2, 6, none⟩) (fun g e => by have := (hown.block g e).1; simp only; omega) _)
    · obtain rfl : k = mm := by omega
      have hi1 : (k : Int) ≤ (k : Int) := Int.le_refl _
      have r0 := R.out.hr.at 0 _ rfl
      have r1 := R.out.hr.at 1 _ rfl
      have r2 := R.out.hr.at 2 _ rfl
      have r3 := R.out.hr.at 3 _ rfl
      have r4 := R.out.hr.at 4 _ rfl
      have r5 := R.out.hr.at 5 _ rfl
      have r6 := R.out.hr.at 6 _ rfl
      have y0 := R.out.hz.at 0 _ rfl
      have y1 := R.out.hz.at 1 _ rfl
      have y2 := R.out.hz.at 2 _ rfl
      have y3 := R.out.hz.at 3 _ rfl
      have y4 := R.out.hz.at 4 _ rfl
      have y5 := R.out.hz.at 5 _ rfl
      have y6 := R.out.hz.at 6 _ rfl
      have z := R.out.hz.frozen
      go_wp2_with fail
      have BF := Blk.setRow R.out.hz [.bool true, .int .u32 (fld bs 4 4), .int .u64 (fld bs 8 8), .int .u32 (fld bs 16 4), .int .u32 (fld bs 20 4), .int .u32 (fld bs 24 4), .slice A' k c'] rfl
      have UF := below_setRow (g := w.heap.size) (Nat.le_refl _) [.bool true, .int .u32 (fld bs 4 4), .int .u64 (fld bs 8 8), .int .u32 (fld bs 16 4), .int .u32 (fld bs 20 4), .int .u32 (fld bs 24 4), .slice A' k c'] _ 0 R.out.hu
      have RN := (RowsNew.setRow (g := w.heap.size) (n := w.heap.size + 3) (by omega) [.bool true, .int .u32 (fld bs 4 4), .int .u64 (fld bs 8 8), .int .u32 (fld bs 16 4), .int .u32 (fld bs 20 4), .int .u32 (fld bs 24 4), .slice A' k c'] _ 0 (HO.out.rowsNew (by simp) (fun _ => rfl) (Nat.le_refl _))).less (m := w.heap.size) (by omega)
      have hrow : (Rep.Rpt.of bs true k).row A' c' = #[.bool true, .int .u32 (fld bs 4 4), .int .u64 (fld bs 8 8), .int .u32 (fld bs 16 4), .int .u32 (fld bs 20 4), .int .u32 (fld bs 24 4), .slice A' k c'] := by simp [Rep.Rpt.row, Rep.Rpt.of]
      simp only [setRow, Nat.zero_add, Nat.reduceAdd] at BF UF RN
      exact bodyPost_ret (v := .tuple #[.agg #[.bool true, .int .u32 (fld bs 4 4), .int .u64 (fld bs 8 8), .int .u32 (fld bs 16 4), .int .u32 (fld bs 20 4), .int .u32 (fld bs 24 4), .slice A' k c'], .int .i64 S, .int .u8 0]) (res_ctt Try.results23 rfl (run_loadVar_row (P := Try.prog) _ _ _ _ _ _ _ BF Try.underlying47 rfl (by kernel_rfl)) rfl rfl) rfl ⟨A', c', by show _ = Ending.returned (.tuple #[.agg ((Rep.Rpt.of bs true k).row A' c'), .int .i64 S, .int .u8 0]); rw [hrow], RN, UF⟩
end
end Go.Proofs.Ythmcbmjjngolmaa

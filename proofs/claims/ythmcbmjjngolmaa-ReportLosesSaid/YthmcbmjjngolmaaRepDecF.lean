/- Layer 26: Decode of the program: a report whose sender is false. -/
import Derived.Test.YthmcbmjjngolmaaRepDec2
namespace Go.Proofs.Ythmcbmjjngolmaa
open Go.RowKit
set_option linter.unusedVariables false
set_option linter.unusedSimpArgs false
attribute [local go_sem] setCell_drewN alloc_drewN
section
variable (A : Option Addr) (bs : List Int) (c : Nat) (w : World)
set_option maxRecDepth 100000 in
set_option maxHeartbeats 12800000 in
theorem Dec_ok_false (hA : IntsAt w w.heap.size .u8 A bs) (hz : Within 0 255 bs) (hm : bs.length ≤ maxLen) (mm : Nat) (h : 4 ≤ bs.length) (h2 : bs.getD 0 0 / 32 = 4) (hmm : bs.getD 0 0 % 32 = (mm : Int)) (h3 : bs.getD 1 0 = 201) (h4' : 256 * bs.getD 2 0 + bs.getD 3 0 + 1 = 2 + 6 * (mm : Int)) (h5 : 8 + 24 * mm ≤ bs.length) : Calls Try.prog 18 #[.slice A bs.length c] w (DecR (Rep.Rpt.of bs false mm, 4 * (2 + 6 * (mm : Int)), 0) w) := by
  have h4 : ¬bs.length < 4 := by omega
  have HM := Lib.hid hm
  have HB := Lib.hid hz
  have hA0 := hA
  obtain ⟨b, off, rfl, hbB, hcell⟩ := hA (by omega)
  have HA := Lib.hid hA0
  clear hA0
  have q0 := (cell_new_old (cell_new_old (show w.cell? ⟨b, off, none⟩ = some (.int .u8 (bs.getD 0 0)) from hcell 0 (by omega)) (.cells #[.slice (some ⟨b, off, none⟩) bs.length c] 40)) (.cells #[.bool false, .int .u32 0, .int .u64 0, .int .u32 0, .int .u32 0, .int .u32 0, .slice none 0 0] 47))
  obtain ⟨m0, n0⟩ := hz.at (i := 0) (by omega)
  have q1 := (cell_new_old (cell_new_old (show w.cell? ⟨b, off + 1, none⟩ = some (.int .u8 (bs.getD 1 0)) from hcell 1 (by omega)) (.cells #[.slice (some ⟨b, off, none⟩) bs.length c] 40)) (.cells #[.bool false, .int .u32 0, .int .u64 0, .int .u32 0, .int .u32 0, .int .u32 0, .slice none 0 0] 47))
  obtain ⟨m1, n1⟩ := hz.at (i := 1) (by omega)
  have q2 := (cell_new_old (cell_new_old (show w.cell? ⟨b, off + 2, none⟩ = some (.int .u8 (bs.getD 2 0)) from hcell 2 (by omega)) (.cells #[.slice (some ⟨b, off, none⟩) bs.length c] 40)) (.cells #[.bool false, .int .u32 0, .int .u64 0, .int .u32 0, .int .u32 0, .int .u32 0, .slice none 0 0] 47))
  obtain ⟨m2, n2⟩ := hz.at (i := 2) (by omega)
  have q3 := (cell_new_old (cell_new_old (show w.cell? ⟨b, off + 3, none⟩ = some (.int .u8 (bs.getD 3 0)) from hcell 3 (by omega)) (.cells #[.slice (some ⟨b, off, none⟩) bs.length c] 40)) (.cells #[.bool false, .int .u32 0, .int .u64 0, .int .u32 0, .int .u32 0, .int .u32 0, .slice none 0 0] 47))
  obtain ⟨m3, n3⟩ := hz.at (i := 3) (by omega)
  generalize bs.getD 0 0 = x0 at *
  generalize bs.getD 1 0 = x1 at *
  generalize bs.getD 2 0 = x2 at *
  generalize bs.getD 3 0 = x3 at *
  unfold maxLen at hm
  clear hA hz hcell
  have t0 : (0 : Int) < (bs.length : Int) := by omega
  have t1 : (1 : Int) < (bs.length : Int) := by omega
  have t2 : (2 : Int) < (bs.length : Int) := by omega
  have t3 : (3 : Int) < (bs.length : Int) := by omega
  have kk := and_low x0 m0 n0
  rw [hmm] at kk
  have k1 : (x0 / 32 != 4) = false := by simp [h2]
  have hmb : (mm : Int) ≤ 31 := by omega
  have ks := Lib.hid fun W => size_any false mm W (by omega)
  obtain ⟨S, hS⟩ : ∃ S, S = Rep.sizeR false mm := ⟨_, rfl⟩
  rw [← hS] at ks
  have hS2 : S = 4 * (2 + 6 * (mm : Int)) := by rw [hS]; unfold Rep.sizeR; simp; omega
  clear hS h2 hmm
  subst h3
  have hor := or_word x2 x3 m2 n2 m3 n3
  have hq : S / 4 = 2 + 6 * (mm : Int) := by omega
  have k5 : (256 * x2 + x3 + 1 != S / 4) = false := by rw [hq, h4']; simp
  rw [hq] at k5
  have k6 : S.tdiv 4 = 2 + 6 * (mm : Int) := by rw [hS2]; exact Int.mul_tdiv_cancel_left _ (by decide)
  have k7 : S ≤ (bs.length : Int) := by rw [hS2]; omega
  rw [← hS2]
  have HS2 := Lib.hid hS2
  have HMB := Lib.hid hmb
  clear h4' hq hS2
  go_enter Try.func18, Try.ntmps18
  have U := Lib.hid (Bel.push (Bel.push (Bel.refl w) (.cells #[.slice (some ⟨b, off, none⟩) bs.length c] 40)) (.cells #[.bool false, .int .u32 0, .int .u64 0, .int .u32 0, .int .u32 0, .int .u32 0, .slice none 0 0] 47))
  have B := Lib.hid (Blk.new1 w (.cells #[.slice (some ⟨b, off, none⟩) bs.length c] 40) 47 #[.bool false, .int .u32 0, .int .u64 0, .int .u32 0, .int .u32 0, .int .u32 0, .slice none 0 0])
  have X := Lib.hid ((Blk.new w 40 #[.slice (some ⟨b, off, none⟩) bs.length c]).push (.cells #[.bool false, .int .u32 0, .int .u64 0, .int .u32 0, .int .u32 0, .int .u32 0, .slice none 0 0] 47))
  go_wp2_with fail
  refine (ks.out _).mono ?_
  rintro e w1 ⟨rfl, rfl⟩
  go_wp2_with fail
  go_quiet (fail)
  rename_i nq _
  obtain ⟨W, hW⟩ : ∃ W, W = (((w.alloc (.cells #[.slice (some ⟨b, off, none⟩) bs.length c] 40)).alloc (.cells #[.bool false, .int .u32 0, .int .u64 0, .int .u32 0, .int .u32 0, .int .u32 0, .slice none 0 0] 47)).drewN nq) := ⟨_, rfl⟩
  rw [← hW]
  have HU : Hid (Bel w W) := by rw [hW]; exact Lib.hid (U.out.drewN nq)
  have HZ : Hid (Blk W (w.heap.size + 1) 47 #[.bool false, .int .u32 0, .int .u64 0, .int .u32 0, .int .u32 0, .int .u32 0, .slice none 0 0]) := by rw [hW]; exact Lib.hid (B.out.drewN nq)
  have HX : Hid (Blk W w.heap.size 40 #[.slice (some ⟨b, off, none⟩) bs.length c]) := by rw [hW]; exact Lib.hid (X.out.drewN nq)
  have HG : Hid (W.heap.size = w.heap.size + 2) := by rw [hW]; exact Lib.hid (by simp [World.drewN])
  have HQ : Hid (W.cell? ⟨b, off + 1, none⟩ = some (.int .u8 201)) := by rw [hW]; exact Lib.hid q1
  clear hW U B X q0 q1 q2 q3 kk k1 hor k5 k6
  have cx := HX.out.at 0 _ rfl
  obtain ⟨ga, hga⟩ : ∃ g, g = W.heap.size := ⟨_, rfl⟩
  have hg : w.heap.size + 2 ≤ ga := by rw [hga, HG.out]; exact Nat.le_refl _
  go_wp2_with fail
  rw [← hga]
  obtain ⟨W1, hW1⟩ : ∃ V, V = W.alloc (.cells #[.int .i64 4] 3) := ⟨_, rfl⟩
  rw [← hW1]
  have hs1 : W1.heap.size = ga + 1 := by rw [hW1, size_alloc1, ← hga]
  have HU1 : Hid (Bel w W1) := by rw [hW1]; exact Lib.hid (HU.out.push _)
  have HX1 : Hid (Blk W1 w.heap.size 40 #[.slice (some ⟨b, off, none⟩) bs.length c]) := by rw [hW1]; exact Lib.hid (HX.out.push _)
  have HP1 : Hid (Blk W1 ga 3 #[.int .i64 ((4 : Nat) : Int)]) := by rw [hW1, hga]; exact Lib.hid (Blk.new W 3 #[.int .i64 4])
  have D0 : Hid (DState w (W1.alloc (.cells #[.bool false, .int .u32 0, .int .u64 0, .int .u32 0, .int .u32 0, .int .u32 0, .slice none 0 0] 47)) ga (some ⟨b, off, none⟩) c bs 4 [.bool false, .int .u32 0, .int .u64 0, .int .u32 0, .int .u32 0, .int .u32 0, .slice none 0 0]) := Lib.hid ⟨HA.out, HB.out, HM.out, hg, (by have := Blk.new W1 47 #[.bool false, .int .u32 0, .int .u64 0, .int .u32 0, .int .u32 0, .int .u32 0, .slice none 0 0]; rwa [hs1] at this), HP1.out.push _, HX1.out.push _, (by rw [hW1]; exact (HZ.out.push _).push _), HU1.out.push _, by rw [size_alloc1, hs1]; exact Nat.le_refl _⟩
  have hq1 : W1.cell? ⟨b, off + 1, none⟩ = some (.int .u8 201) := by rw [hW1]; exact cell_new_old HQ.out _
  clear cx hW1 hga HU HZ HX HQ HG
  have hgb : w.heap.size < ga + 1 := by omega
  have hbg : b < ga + 1 := by omega
  have hne1 : ¬w.heap.size = ga := by omega
  have hne2 : ¬b = ga := by omega
  have hne3 : ¬ga + 1 = ga := by omega
  have hnb1 : ¬w.heap.size = ga + 1 := by omega
  have hnb2 : ¬b = ga + 1 := by omega
  have cx1 : W1.cell? ⟨w.heap.size, 0, none⟩ = some (.slice (some ⟨b, off, none⟩) bs.length c) := HX1.out.at 0 _ rfl
  obtain ⟨hmod, hmod2⟩ := fld_mod bs 4 HB.out (by omega)
  go_cut [9] (fun s9 wx => s9 = .pointer (some ⟨ga + 1, 0, none⟩) ∧ Hid (DState w wx ga (some ⟨b, off, none⟩) c bs 8 [.bool false, .int .u32 (fld bs 4 4), .int .u64 0, .int .u32 0, .int .u32 0, .int .u32 0, .slice none 0 0]))
  case first =>
    have HI1 := HA.out.below HU1.out
    have HIZ : IntsAt (W1.alloc (.cells #[.bool false, .int .u32 0, .int .u64 0, .int .u32 0, .int .u32 0, .int .u32 0, .slice none 0 0] 47)) w.heap.size .u8 (some ⟨b, off, none⟩) bs := HI1.alloc (by omega) _
    have HXZ := Blk.push HX1.out (.cells #[.bool false, .int .u32 0, .int .u64 0, .int .u32 0, .int .u32 0, .int .u32 0, .slice none 0 0] 47)
    have HPZ := Blk.push HP1.out (.cells #[.bool false, .int .u32 0, .int .u64 0, .int .u32 0, .int .u32 0, .int .u32 0, .slice none 0 0] 47)
    go_region_held3 (fun w' => w'.cell? ⟨w.heap.size, 0, none⟩ = some (.slice (some ⟨b, off, none⟩) bs.length c) ∧ w'.cell? ⟨b, off + 1, none⟩ = some (.int .u8 201))
      (first | (with_reducible assumption) | ((try go_split_ands); (with_reducible repeat' apply And.intro) <;> (with_reducible repeat first | assumption | exact only_cell (by assumption) (by assumption) (by assumption) | refine cell_drew ?_ | refine cell_new_old ?_ _ | refine cell_set_far ?_ hnb1 _ | refine cell_set_far ?_ hnb2 _)))
      (first | (go_at_call 33; refine (next_any (some ⟨b, off, none⟩) c bs w.heap.size ga 4 4 _ w.heap.size bs.length ?_ HB.out (by omega) ?_ ?_ (by omega) (by omega) (by omega) rfl HM.out).mono ?_; (first | exact HI1 | exact HIZ); (first | exact HX1.out | exact HXZ); (first | exact HP1.out | exact HPZ); rintro e w' ⟨rfl, ho, hp⟩; obtain ⟨hcc, hff, hss⟩ := ocell ho; (first | have hoa : Only ga W1 w' := Only.undrew ho | have hob : Only ga (W1.alloc (.cells #[.bool false, .int .u32 0, .int .u64 0, .int .u32 0, .int .u32 0, .int .u32 0, .slice none 0 0] 47)) w' := Only.undrew ho); have cy1 : w'.cell? ⟨w.heap.size, 0, none⟩ = some (.slice (some ⟨b, off, none⟩) bs.length c) := only_cell ho hne1 (by first | exact cx1 | exact cell_new_old cx1 _); have cy2 : w'.cell? ⟨b, off + 1, none⟩ = some (.int .u8 201) := only_cell ho hne2 (by first | exact hq1 | exact cell_new_old hq1 _)))
    all_goals
      go_wp2_with fail
      go_meet
      first
        | (have hr := dec15a D0.out hs1 hoa (q := 8) hp (row := [.bool false, .int .u32 (fld bs 4 4), .int .u64 0, .int .u32 0, .int .u32 0, .int .u32 0, .slice none 0 0]); with_reducible exact ⟨rfl, hr⟩)
        | (have hr := dec15b D0.out hob (q := 8) hp [.bool false, .int .u32 (fld bs 4 4), .int .u64 0, .int .u32 0, .int .u32 0, .int .u32 0, .slice none 0 0] rfl; simp only [setRow, Nat.zero_add, Nat.reduceAdd] at hr; with_reducible exact ⟨rfl, hr⟩)
  case rest =>
    obtain ⟨rfl, D⟩ := hcut
    clear D0 HX1 HP1 HU1 cx1 hq1 hs1 hmod hmod2 hgb hbg hne1 hne2 hne3 hnb1 hnb2 HA HB HM
    have r0 := D.out.hr.at 0 _ rfl
    go_wp2_with fail
    clear r0
    go_loopg [94] mm (fun gk s94 wr => ∃ (k : Nat) (A' : Option Addr) (c' : Nat), gk + k = mm ∧ s94 = .int .i64 k ∧ Hid (DState w wr ga (some ⟨b, off, none⟩) c bs (8 + 24 * k) [.bool false, .int .u32 (fld bs 4 4), .int .u64 0, .int .u32 0, .int .u32 0, .int .u32 0, .slice A' k c']) ∧ Hid (Owns wr (ga + 2) 27 7 A' k c' (((List.range k).map fun i => Rep.blockAt bs (8 + 24 * i)).flatMap Rep.Bk.cells)))
    case atStart => exact ⟨0, none, 0, rfl, rfl, D, Lib.hid Owns.nil⟩
    case round =>
      clear D
      obtain ⟨k, A', c', hgk, rfl, D, HO⟩ := hrel
      by_cases hlt : k < mm
      · obtain ⟨q, hq⟩ : ∃ q, q = 8 + 24 * k := ⟨_, rfl⟩
        rw [← hq] at D
        have hql : q + 24 ≤ bs.length := by omega
        have HQ := Lib.hid hq
        clear hq
        have hi0 : (0 : Int) ≤ (k : Int) := by omega
        have hi1 : (k : Int) < (mm : Int) := by omega
        obtain ⟨ma0, mb0⟩ := fld_mod bs q D.out.bytes (by omega)
        obtain ⟨ma1, mb1⟩ := fld_mod1 bs (q + 4) D.out.bytes (by omega)
        go_wp2_with fail
        refine (D.out.call 4 (q + 4) (by omega) (by omega) (by omega)).mono ?_
        rintro e v1 ⟨rfl, ho, D'⟩
        clear D
        have D := D'
        clear D'
        have HO' := Lib.hid (own_only HO.out ho (by omega))
        clear HO
        have HO := HO'
        clear HO'
        clear ho
        go_wp2_with fail
        refine (D.out.call 1 (q + 5) (by omega) (by omega) (by omega)).mono ?_
        rintro e v2 ⟨rfl, ho, D'⟩
        clear D
        have D := D'
        clear D'
        have HO' := Lib.hid (own_only HO.out ho (by omega))
        clear HO
        have HO := HO'
        clear HO'
        clear ho
        go_wp2_with fail
        clear ma0 mb0 ma1 mb1
        have HLT : Hid (∀ g, ownB A' = some g → g < v2.heap.size) := Lib.hid (fun g e => (HO.out.block g e).2)
        have HK := Lib.hid (Blk.new v2 27 #[.int .u32 (fld bs q 4), .int .u8 (fld bs (q + 4) 1), .int .i64 0, .int .u32 0, .int .u32 0, .int .u32 0, .int .u32 0])
        have D' := Lib.hid (D.out.push (.cells #[.int .u32 (fld bs q 4), .int .u8 (fld bs (q + 4) 1), .int .i64 0, .int .u32 0, .int .u32 0, .int .u32 0, .int .u32 0] 27))
        have HO' := Lib.hid (HO.out.alloc (.cells #[.int .u32 (fld bs q 4), .int .u8 (fld bs (q + 4) 1), .int .i64 0, .int .u32 0, .int .u32 0, .int .u32 0, .int .u32 0] 27))
        have HGE := D.out.hs
        clear D HO
        have D := D'
        have HO := HO'
        clear D' HO'
        obtain ⟨gB, hgB⟩ : ∃ g, g = v2.heap.size := ⟨_, rfl⟩
        rw [← hgB] at HLT HK HGE ⊢
        obtain ⟨V, hV⟩ : ∃ V, V = v2.alloc (.cells #[.int .u32 (fld bs q 4), .int .u8 (fld bs (q + 4) 1), .int .i64 0, .int .u32 0, .int .u32 0, .int .u32 0, .int .u32 0] 27) := ⟨_, rfl⟩
        rw [← hV] at HK D HO ⊢
        clear hV hgB
        refine (D.out.call 3 (q + 8) (by omega) (by omega) (by omega)).mono ?_
        rintro e v3 ⟨rfl, ho, D'⟩
        clear D
        have D := D'
        clear D'
        have HO' := Lib.hid (own_only HO.out ho (by omega))
        clear HO
        have HO := HO'
        clear HO'
        have HK' := Lib.hid (ho.blk HK.out (by omega))
        clear HK
        have HK := HK'
        clear HK'
        clear ho
        obtain ⟨ma2, mb2, mc2, md2⟩ := fld_mod3 bs (q + 5) D.out.bytes (by omega)
        have z := HK.out.frozen
        have k2 := HK.out.at 2 _ rfl
        by_cases hb : 8388607 < fld bs (q + 5) 3
        · have lostf : decide (8388607 < fld bs (q + 5) 3) = true := by simpa using hb
          go_wp2_with fail
          clear ma2 mb2 z k2 lostf
          have D' := Lib.hid ((D.out.far gB 2 HGE (.int .i64 (fld bs (q + 5) 3))).far gB 2 HGE (.int .i64 (fld bs (q + 5) 3 - 16777216)))
          have HK' : Hid (Blk _ gB 27 #[.int .u32 (fld bs q 4), .int .u8 (fld bs (q + 4) 1), .int .i64 (fld bs (q + 5) 3 - 16777216), .int .u32 0, .int .u32 0, .int .u32 0, .int .u32 0]) := Lib.hid ((HK.out.set_ 2 (.int .i64 (fld bs (q + 5) 3))).set_ 2 (.int .i64 (fld bs (q + 5) 3 - 16777216)))
          have HO' := Lib.hid ((HO.out.setCell (p := ⟨gB, 2, none⟩) (fun g e => Nat.ne_of_lt (HLT.out g e)) (.int .i64 (fld bs (q + 5) 3))).setCell (p := ⟨gB, 2, none⟩) (fun g e => Nat.ne_of_lt (HLT.out g e)) (.int .i64 (fld bs (q + 5) 3 - 16777216)))
          clear D HK HO
          have D := D'
          have HK := HK'
          have HO := HO'
          clear D' HK' HO'
          obtain ⟨ma3, mb3⟩ := fld_mod bs (q + 8) D.out.bytes (by omega)
          obtain ⟨ma4, mb4⟩ := fld_mod bs (q + 12) D.out.bytes (by omega)
          refine (D.out.call 4 (q + 12) (by omega) (by omega) (by omega)).mono ?_
          rintro e v4 ⟨rfl, ho, D'⟩
          clear D
          have D := D'
          clear D'
          have HO' := Lib.hid (own_only HO.out ho (by omega))
          clear HO
          have HO := HO'
          clear HO'
          have HK' := Lib.hid (ho.blk HK.out (by omega))
          clear HK
          have HK := HK'
          clear HK'
          clear ho
          go_wp2_with fail
          refine (D.out.call 4 (q + 16) (by omega) (by omega) (by omega)).mono ?_
          rintro e v5 ⟨rfl, ho, D'⟩
          clear D
          have D := D'
          clear D'
          have HO' := Lib.hid (own_only HO.out ho (by omega))
          clear HO
          have HO := HO'
          clear HO'
          have HK' := Lib.hid (ho.blk HK.out (by omega))
          clear HK
          have HK := HK'
          clear HK'
          clear ho
          have z := HK.out.frozen
          have k3 := HK.out.at 3 _ rfl
          have k4 := HK.out.at 4 _ rfl
          go_wp2_with fail
          clear ma3 mb3 ma4 mb4 z k3 k4
          have D' := Lib.hid ((D.out.far gB 3 HGE (.int .u32 (fld bs (q + 8) 4))).far gB 4 HGE (.int .u32 (fld bs (q + 12) 4)))
          have HK' : Hid (Blk _ gB 27 #[.int .u32 (fld bs q 4), .int .u8 (fld bs (q + 4) 1), .int .i64 (fld bs (q + 5) 3 - 16777216), .int .u32 (fld bs (q + 8) 4), .int .u32 (fld bs (q + 12) 4), .int .u32 0, .int .u32 0]) := Lib.hid ((HK.out.set_ 3 (.int .u32 (fld bs (q + 8) 4))).set_ 4 (.int .u32 (fld bs (q + 12) 4)))
          have HO' := Lib.hid ((HO.out.setCell (p := ⟨gB, 3, none⟩) (fun g e => Nat.ne_of_lt (HLT.out g e)) (.int .u32 (fld bs (q + 8) 4))).setCell (p := ⟨gB, 4, none⟩) (fun g e => Nat.ne_of_lt (HLT.out g e)) (.int .u32 (fld bs (q + 12) 4)))
          clear D HK HO
          have D := D'
          have HK := HK'
          have HO := HO'
          clear D' HK' HO'
          obtain ⟨ma3, mb3⟩ := fld_mod bs (q + 16) D.out.bytes (by omega)
          obtain ⟨ma4, mb4⟩ := fld_mod bs (q + 20) D.out.bytes (by omega)
          refine (D.out.call 4 (q + 20) (by omega) (by omega) (by omega)).mono ?_
          rintro e v6 ⟨rfl, ho, D'⟩
          clear D
          have D := D'
          clear D'
          have HO' := Lib.hid (own_only HO.out ho (by omega))
          clear HO
          have HO := HO'
          clear HO'
          have HK' := Lib.hid (ho.blk HK.out (by omega))
          clear HK
          have HK := HK'
          clear HK'
          clear ho
          go_wp2_with fail
          refine (D.out.call 4 (q + 24) (by omega) (by omega) (by omega)).mono ?_
          rintro e v7 ⟨rfl, ho, D'⟩
          clear D
          have D := D'
          clear D'
          have HO' := Lib.hid (own_only HO.out ho (by omega))
          clear HO
          have HO := HO'
          clear HO'
          have HK' := Lib.hid (ho.blk HK.out (by omega))
          clear HK
          have HK := HK'
          clear HK'
          clear ho
          have z := HK.out.frozen
          have k5 := HK.out.at 5 _ rfl
          have k6 := HK.out.at 6 _ rfl
          go_upto_region 27 with fail
          clear ma3 mb3 ma4 mb4 z k5 k6
          have D' := Lib.hid ((D.out.far gB 5 HGE (.int .u32 (fld bs (q + 16) 4))).far gB 6 HGE (.int .u32 (fld bs (q + 20) 4)))
          have HK' : Hid (Blk _ gB 27 #[.int .u32 (fld bs q 4), .int .u8 (fld bs (q + 4) 1), .int .i64 (fld bs (q + 5) 3 - 16777216), .int .u32 (fld bs (q + 8) 4), .int .u32 (fld bs (q + 12) 4), .int .u32 (fld bs (q + 16) 4), .int .u32 (fld bs (q + 20) 4)]) := Lib.hid ((HK.out.set_ 5 (.int .u32 (fld bs (q + 16) 4))).set_ 6 (.int .u32 (fld bs (q + 20) 4)))
          have HO' := Lib.hid ((HO.out.setCell (p := ⟨gB, 5, none⟩) (fun g e => Nat.ne_of_lt (HLT.out g e)) (.int .u32 (fld bs (q + 16) 4))).setCell (p := ⟨gB, 6, none⟩) (fun g e => Nat.ne_of_lt (HLT.out g e)) (.int .u32 (fld bs (q + 20) 4)))
          clear D HK HO
          have D := D'
          have HK := HK'
          have HO := HO'
          clear D' HK' HO'
          obtain ⟨V2, hV2⟩ : ∃ V, V = (v7.setCell ⟨gB, 5, none⟩ (.int .u32 (fld bs (q + 16) 4))).setCell ⟨gB, 6, none⟩ (.int .u32 (fld bs (q + 20) 4)) := ⟨_, rfl⟩
          rw [← hV2] at D HK HO ⊢
          clear hV2
          have k0 := HK.out.at 0 _ rfl
          have k1 := HK.out.at 1 _ rfl
          have k2 := HK.out.at 2 _ rfl
          have k3 := HK.out.at 3 _ rfl
          have k4 := HK.out.at 4 _ rfl
          have k5 := HK.out.at 5 _ rfl
          have k6 := HK.out.at 6 _ rfl
          have r6 := D.out.hr.at 6 _ rfl
          have hws := D.out.hs
          go_wp2_with (at_builtin; go_loud (refine wpList_append_at rfl _ _ 45 rfl (ga + 2) 27 7 32 (.agg #[.int .u32 0, .int .u8 0, .int .i64 0, .int .u32 0, .int .u32 0, .int .u32 0, .int .u32 0]) Try.underlying45 info_bk rfl (by decide) A' k c' _ rfl HO.out [.int .u32 (fld bs q 4), .int .u8 (fld bs (q + 4) 1), .int .i64 (fld bs (q + 5) 3 - 16777216), .int .u32 (fld bs (q + 8) 4), .int .u32 (fld bs (q + 12) 4), .int .u32 (fld bs (q + 16) 4), .int .u32 (fld bs (q + 20) 4)] rfl (by simp [Value.oneCell']) rfl (by unfold maxLen; omega) (by omega) hws ?_); intro A2 c2 wn hown hgr hat; have D2 := Lib.hid (D.out.grown hgr (fun g e => (HO.out.block g e).1)); have r6' := D2.out.hr.at 6 _ rfl; have z' := D2.out.hr.frozen)
          clear k0 k1 k2 k3 k4 k5 k6 r6
          go_roundg (gk - 1)
          case measure => omega
          case rel =>
            refine ⟨k + 1, A2, c2, by omega, by go_num, ?_, ?_⟩
            · have e : 8 + 24 * (k + 1) = q + 24 := by have := HQ.out; omega
              rw [e]
              exact Lib.hid (D2.out.set 6 (.slice A2 (k + 1) c2))
            · have hcells : Rep.Bk.cells (Rep.blockAt bs q) = [.int .u32 (fld bs q 4), .int .u8 (fld bs (q + 4) 1), .int .i64 (fld bs (q + 5) 3 - 16777216), .int .u32 (fld bs (q + 8) 4), .int .u32 (fld bs (q + 12) 4), .int .u32 (fld bs (q + 16) 4), .int .u32 (fld bs (q + 20) 4)] := by
                simp only [Rep.Bk.cells, Rep.blockAt]
                rw [if_pos (by omega)]
              rw [blocks_step, ← HQ.out, hcells]
              exact Lib.hid (hown.setCell (p := ⟨ga + 1, 6, none⟩) (fun g e => by have := (hown.block g e).1; simp only; omega) _)
        · have lostf : decide (8388607 < fld bs (q + 5) 3) = false := by simpa using hb
          go_wp2_with fail
          clear ma2 mb2 z k2 lostf
          have D' := Lib.hid (D.out.far gB 2 HGE (.int .i64 (fld bs (q + 5) 3)))
          have HK' : Hid (Blk _ gB 27 #[.int .u32 (fld bs q 4), .int .u8 (fld bs (q + 4) 1), .int .i64 (fld bs (q + 5) 3), .int .u32 0, .int .u32 0, .int .u32 0, .int .u32 0]) := Lib.hid (HK.out.set_ 2 (.int .i64 (fld bs (q + 5) 3)))
          have HO' := Lib.hid (HO.out.setCell (p := ⟨gB, 2, none⟩) (fun g e => Nat.ne_of_lt (HLT.out g e)) (.int .i64 (fld bs (q + 5) 3)))
          clear D HK HO
          have D := D'
          have HK := HK'
          have HO := HO'
          clear D' HK' HO'
          obtain ⟨ma3, mb3⟩ := fld_mod bs (q + 8) D.out.bytes (by omega)
          obtain ⟨ma4, mb4⟩ := fld_mod bs (q + 12) D.out.bytes (by omega)
          refine (D.out.call 4 (q + 12) (by omega) (by omega) (by omega)).mono ?_
          rintro e v4 ⟨rfl, ho, D'⟩
          clear D
          have D := D'
          clear D'
          have HO' := Lib.hid (own_only HO.out ho (by omega))
          clear HO
          have HO := HO'
          clear HO'
          have HK' := Lib.hid (ho.blk HK.out (by omega))
          clear HK
          have HK := HK'
          clear HK'
          clear ho
          go_wp2_with fail
          refine (D.out.call 4 (q + 16) (by omega) (by omega) (by omega)).mono ?_
          rintro e v5 ⟨rfl, ho, D'⟩
          clear D
          have D := D'
          clear D'
          have HO' := Lib.hid (own_only HO.out ho (by omega))
          clear HO
          have HO := HO'
          clear HO'
          have HK' := Lib.hid (ho.blk HK.out (by omega))
          clear HK
          have HK := HK'
          clear HK'
          clear ho
          have z := HK.out.frozen
          have k3 := HK.out.at 3 _ rfl
          have k4 := HK.out.at 4 _ rfl
          go_wp2_with fail
          clear ma3 mb3 ma4 mb4 z k3 k4
          have D' := Lib.hid ((D.out.far gB 3 HGE (.int .u32 (fld bs (q + 8) 4))).far gB 4 HGE (.int .u32 (fld bs (q + 12) 4)))
          have HK' : Hid (Blk _ gB 27 #[.int .u32 (fld bs q 4), .int .u8 (fld bs (q + 4) 1), .int .i64 (fld bs (q + 5) 3), .int .u32 (fld bs (q + 8) 4), .int .u32 (fld bs (q + 12) 4), .int .u32 0, .int .u32 0]) := Lib.hid ((HK.out.set_ 3 (.int .u32 (fld bs (q + 8) 4))).set_ 4 (.int .u32 (fld bs (q + 12) 4)))
          have HO' := Lib.hid ((HO.out.setCell (p := ⟨gB, 3, none⟩) (fun g e => Nat.ne_of_lt (HLT.out g e)) (.int .u32 (fld bs (q + 8) 4))).setCell (p := ⟨gB, 4, none⟩) (fun g e => Nat.ne_of_lt (HLT.out g e)) (.int .u32 (fld bs (q + 12) 4)))
          clear D HK HO
          have D := D'
          have HK := HK'
          have HO := HO'
          clear D' HK' HO'
          obtain ⟨ma3, mb3⟩ := fld_mod bs (q + 16) D.out.bytes (by omega)
          obtain ⟨ma4, mb4⟩ := fld_mod bs (q + 20) D.out.bytes (by omega)
          refine (D.out.call 4 (q + 20) (by omega) (by omega) (by omega)).mono ?_
          rintro e v6 ⟨rfl, ho, D'⟩
          clear D
          have D := D'
          clear D'
          have HO' := Lib.hid (own_only HO.out ho (by omega))
          clear HO
          have HO := HO'
          clear HO'
          have HK' := Lib.hid (ho.blk HK.out (by omega))
          clear HK
          have HK := HK'
          clear HK'
          clear ho
          go_wp2_with fail
          refine (D.out.call 4 (q + 24) (by omega) (by omega) (by omega)).mono ?_
          rintro e v7 ⟨rfl, ho, D'⟩
          clear D
          have D := D'
          clear D'
          have HO' := Lib.hid (own_only HO.out ho (by omega))
          clear HO
          have HO := HO'
          clear HO'
          have HK' := Lib.hid (ho.blk HK.out (by omega))
          clear HK
          have HK := HK'
          clear HK'
          clear ho
          have z := HK.out.frozen
          have k5 := HK.out.at 5 _ rfl
          have k6 := HK.out.at 6 _ rfl
          go_upto_region 27 with fail
          clear ma3 mb3 ma4 mb4 z k5 k6
          have D' := Lib.hid ((D.out.far gB 5 HGE (.int .u32 (fld bs (q + 16) 4))).far gB 6 HGE (.int .u32 (fld bs (q + 20) 4)))
          have HK' : Hid (Blk _ gB 27 #[.int .u32 (fld bs q 4), .int .u8 (fld bs (q + 4) 1), .int .i64 (fld bs (q + 5) 3), .int .u32 (fld bs (q + 8) 4), .int .u32 (fld bs (q + 12) 4), .int .u32 (fld bs (q + 16) 4), .int .u32 (fld bs (q + 20) 4)]) := Lib.hid ((HK.out.set_ 5 (.int .u32 (fld bs (q + 16) 4))).set_ 6 (.int .u32 (fld bs (q + 20) 4)))
          have HO' := Lib.hid ((HO.out.setCell (p := ⟨gB, 5, none⟩) (fun g e => Nat.ne_of_lt (HLT.out g e)) (.int .u32 (fld bs (q + 16) 4))).setCell (p := ⟨gB, 6, none⟩) (fun g e => Nat.ne_of_lt (HLT.out g e)) (.int .u32 (fld bs (q + 20) 4)))
          clear D HK HO
          have D := D'
          have HK := HK'
          have HO := HO'
          clear D' HK' HO'
          obtain ⟨V2, hV2⟩ : ∃ V, V = (v7.setCell ⟨gB, 5, none⟩ (.int .u32 (fld bs (q + 16) 4))).setCell ⟨gB, 6, none⟩ (.int .u32 (fld bs (q + 20) 4)) := ⟨_, rfl⟩
          rw [← hV2] at D HK HO ⊢
          clear hV2
          have k0 := HK.out.at 0 _ rfl
          have k1 := HK.out.at 1 _ rfl
          have k2 := HK.out.at 2 _ rfl
          have k3 := HK.out.at 3 _ rfl
          have k4 := HK.out.at 4 _ rfl
          have k5 := HK.out.at 5 _ rfl
          have k6 := HK.out.at 6 _ rfl
          have r6 := D.out.hr.at 6 _ rfl
          have hws := D.out.hs
          go_wp2_with (at_builtin; go_loud (refine wpList_append_at rfl _ _ 45 rfl (ga + 2) 27 7 32 (.agg #[.int .u32 0, .int .u8 0, .int .i64 0, .int .u32 0, .int .u32 0, .int .u32 0, .int .u32 0]) Try.underlying45 info_bk rfl (by decide) A' k c' _ rfl HO.out [.int .u32 (fld bs q 4), .int .u8 (fld bs (q + 4) 1), .int .i64 (fld bs (q + 5) 3), .int .u32 (fld bs (q + 8) 4), .int .u32 (fld bs (q + 12) 4), .int .u32 (fld bs (q + 16) 4), .int .u32 (fld bs (q + 20) 4)] rfl (by simp [Value.oneCell']) rfl (by unfold maxLen; omega) (by omega) hws ?_); intro A2 c2 wn hown hgr hat; have D2 := Lib.hid (D.out.grown hgr (fun g e => (HO.out.block g e).1)); have r6' := D2.out.hr.at 6 _ rfl; have z' := D2.out.hr.frozen)
          clear k0 k1 k2 k3 k4 k5 k6 r6
          go_roundg (gk - 1)
          case measure => omega
          case rel =>
            refine ⟨k + 1, A2, c2, by omega, by go_num, ?_, ?_⟩
            · have e : 8 + 24 * (k + 1) = q + 24 := by have := HQ.out; omega
              rw [e]
              exact Lib.hid (D2.out.set 6 (.slice A2 (k + 1) c2))
            · have hcells : Rep.Bk.cells (Rep.blockAt bs q) = [.int .u32 (fld bs q 4), .int .u8 (fld bs (q + 4) 1), .int .i64 (fld bs (q + 5) 3), .int .u32 (fld bs (q + 8) 4), .int .u32 (fld bs (q + 12) 4), .int .u32 (fld bs (q + 16) 4), .int .u32 (fld bs (q + 20) 4)] := by
                simp only [Rep.Bk.cells, Rep.blockAt]
                rw [if_neg (by omega)]
              rw [blocks_step, ← HQ.out, hcells]
              exact Lib.hid (hown.setCell (p := ⟨ga + 1, 6, none⟩) (fun g e => by have := (hown.block g e).1; simp only; omega) _)
      · obtain rfl : k = mm := by omega
        have hi1 : (k : Int) ≤ (k : Int) := Int.le_refl _
        have r0 := D.out.hr.at 0 _ rfl
        have r1 := D.out.hr.at 1 _ rfl
        have r2 := D.out.hr.at 2 _ rfl
        have r3 := D.out.hr.at 3 _ rfl
        have r4 := D.out.hr.at 4 _ rfl
        have r5 := D.out.hr.at 5 _ rfl
        have r6 := D.out.hr.at 6 _ rfl
        have y0 := D.out.hz.at 0 _ rfl
        have y1 := D.out.hz.at 1 _ rfl
        have y2 := D.out.hz.at 2 _ rfl
        have y3 := D.out.hz.at 3 _ rfl
        have y4 := D.out.hz.at 4 _ rfl
        have y5 := D.out.hz.at 5 _ rfl
        have y6 := D.out.hz.at 6 _ rfl
        have z := D.out.hz.frozen
        go_wp2_with fail
        have BF := Blk.setRow D.out.hz [.bool false, .int .u32 (fld bs 4 4), .int .u64 0, .int .u32 0, .int .u32 0, .int .u32 0, .slice A' k c'] rfl
        have UF := below_setRow (g := w.heap.size + 1) (by omega) [.bool false, .int .u32 (fld bs 4 4), .int .u64 0, .int .u32 0, .int .u32 0, .int .u32 0, .slice A' k c'] _ 0 D.out.hu
        have RN := (RowsNew.setRow (g := w.heap.size + 1) (n := ga + 2) (by have := D.out.hg; omega) [.bool false, .int .u32 (fld bs 4 4), .int .u64 0, .int .u32 0, .int .u32 0, .int .u32 0, .slice A' k c'] _ 0 (HO.out.rowsNew (by simp) (fun _ => rfl) (Nat.le_refl _))).less (m := w.heap.size) (by have := D.out.hg; omega)
        have hrow : (Rep.Rpt.of bs false k).row A' c' = #[.bool false, .int .u32 (fld bs 4 4), .int .u64 0, .int .u32 0, .int .u32 0, .int .u32 0, .slice A' k c'] := by simp [Rep.Rpt.row, Rep.Rpt.of]
        simp only [setRow, Nat.zero_add, Nat.reduceAdd] at BF UF RN
        exact bodyPost_ret (v := .tuple #[.agg #[.bool false, .int .u32 (fld bs 4 4), .int .u64 0, .int .u32 0, .int .u32 0, .int .u32 0, .slice A' k c'], .int .i64 S, .int .u8 0]) (res_ctt Try.results18 rfl (run_loadVar_row (P := Try.prog) _ _ _ _ _ _ _ BF Try.underlying47 rfl (by kernel_rfl)) rfl rfl) rfl ⟨A', c', by show _ = Ending.returned (.tuple #[.agg ((Rep.Rpt.of bs false k).row A' c'), .int .i64 S, .int .u8 0]); rw [hrow], RN, UF⟩
end
end Go.Proofs.Ythmcbmjjngolmaa

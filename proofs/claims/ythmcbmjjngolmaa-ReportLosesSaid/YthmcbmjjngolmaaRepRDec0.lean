/- Layer 26: Decode of the reference: what it refuses; what stays of memory. -/
import Derived.Test.YthmcbmjjngolmaaRepRBlk
import Derived.Test.YthmcbmjjngolmaaRepREnc
namespace Go.Proofs.Ythmcbmjjngolmaa
open Go.RowKit
set_option linter.unusedVariables false
set_option linter.unusedSimpArgs false
attribute [local go_sem] setCell_drewN alloc_drewN
theorem fld_sub (bs : List Int) (q i k : Nat) (h : i + k ≤ 24) : fld ((bs.drop q).take 24) i k = fld bs (q + i) k := by
  unfold fld
  rw [List.drop_take, List.drop_drop, List.take_take, Nat.min_eq_left (by omega)]
theorem fld_one (bs : List Int) (i : Nat) (h : i < bs.length) : fld bs i 1 = bs.getD i 0 := by
  have := fld_take bs i 0 (by omega)
  rw [this]
  simp [fld, val]
theorem rblock_at (b off c q : Nat) (bs : List Int) (w : World) (B : Nat) (hB : B ≤ w.heap.size) (hA : IntsAt w B .u8 (some ⟨b, off, none⟩) bs) (hz : Within 0 255 bs) (hl : q + 24 ≤ bs.length) (hc : 24 ≤ c) : Calls Try.prog 37 #[.slice (some ⟨b, off + q, none⟩) 24 c] w fun e w' => e = .returned (.agg (Rep.Bk.cells (Rep.blockAt bs q)).toArray) ∧ Below w.heap.size w w' := by
  have h1 : IntsAt w w.heap.size .u8 (some ⟨b, off + q, none⟩) ((bs.drop q).take 24) := (hA.sub q 24 hl).more hB
  have h2 : Within 0 255 ((bs.drop q).take 24) := (hz.drop q).take 24
  have h3 : ((bs.drop q).take 24).length = 24 := by simp; omega
  have e4 : ((bs.drop q).take 24).getD 4 0 = fld bs (q + 4) 1 := by rw [← fld_one _ _ (by omega), fld_sub _ _ _ _ (by omega)]
  by_cases hx : 8388608 ≤ fld bs (q + 5) 3
  · have := rblock_yes b (off + q) c _ w h1 h2 h3 hc (by rw [fld_sub _ _ _ _ (by omega)]; exact hx)
    rw [e4, fld_sub _ _ _ _ (by omega), fld_sub _ _ _ _ (by omega), fld_sub _ _ _ _ (by omega), fld_sub _ _ _ _ (by omega), fld_sub _ _ _ _ (by omega), fld_sub _ _ _ _ (by omega)] at this
    have e : (Rep.Bk.cells (Rep.blockAt bs q)).toArray = #[.int .u32 (fld bs q 4), .int .u8 (fld bs (q + 4) 1), .int .i64 (fld bs (q + 5) 3 - 16777216), .int .u32 (fld bs (q + 8) 4), .int .u32 (fld bs (q + 12) 4), .int .u32 (fld bs (q + 16) 4), .int .u32 (fld bs (q + 20) 4)] := by
      simp only [Rep.Bk.cells, Rep.blockAt]
      rw [if_pos hx]
    rw [e]
    exact this
  · have := rblock_no b (off + q) c _ w h1 h2 h3 hc (by rw [fld_sub _ _ _ _ (by omega)]; omega)
    rw [e4, fld_sub _ _ _ _ (by omega), fld_sub _ _ _ _ (by omega), fld_sub _ _ _ _ (by omega), fld_sub _ _ _ _ (by omega), fld_sub _ _ _ _ (by omega), fld_sub _ _ _ _ (by omega)] at this
    have e : (Rep.Bk.cells (Rep.blockAt bs q)).toArray = #[.int .u32 (fld bs q 4), .int .u8 (fld bs (q + 4) 1), .int .i64 (fld bs (q + 5) 3), .int .u32 (fld bs (q + 8) 4), .int .u32 (fld bs (q + 12) 4), .int .u32 (fld bs (q + 16) 4), .int .u32 (fld bs (q + 20) 4)] := by
      simp only [Rep.Bk.cells, Rep.blockAt]
      rw [if_neg hx]
    rw [e]
    exact this
/-- while Decode of the reference reads -/
structure RState (w wx : World) (row : List Value) : Prop where
  hr : Blk wx (w.heap.size + 2) 47 row.toArray
  hz : Blk wx w.heap.size 47 #[.bool false, .int .u32 0, .int .u64 0, .int .u32 0, .int .u32 0, .int .u32 0, .slice none 0 0]
  hu : Bel w wx
  hs : w.heap.size + 3 ≤ wx.heap.size
section
variable {w wx w' : World} {row : List Value}
theorem RState.grown (h : RState w wx row) {r : Option Nat} (hg : wx.grownBy w' r) (hr : ∀ g, r = some g → w.heap.size + 3 ≤ g) : RState w w' row :=
  have hne : ∀ g, g < w.heap.size + 3 → some g ≠ r := fun g hlt e => by have := hr g e.symm; omega
  ⟨h.hr.grown hg (hne _ (by omega)), h.hz.grown hg (hne _ (by omega)), Below.grown h.hu hg h.hu.size (fun g e => by have := hr g e; omega), Nat.le_trans h.hs hg.size⟩
theorem RState.later (h : RState w wx row) (hb : Below wx.heap.size wx w') : RState w w' row := ⟨h.hr.later hb, h.hz.later hb, h.hu.later hb, Nat.le_trans h.hs hb.size⟩
theorem RState.push (h : RState w wx row) (o : Obj) : RState w (wx.alloc o) row := h.grown (r := none) (World.grownBy_alloc wx o _) (fun g e => by cases e)
theorem RState.drew (h : RState w wx row) : RState w wx.drew row := ⟨h.hr, h.hz, Bel.drew h.hu, h.hs⟩
theorem RState.set (h : RState w wx row) (i : Nat) (v : Value) : RState w (wx.setCell ⟨w.heap.size + 2, i, none⟩ v) (row.set i v) :=
  ⟨by have := h.hr.set_ i v; simpa using this, h.hz.far (by simp) v, below_set_old h.hu (by simp) v, by have := h.hs; simpa [World.setCell] using this⟩
end
section
variable (A : Option Addr) (bs : List Int) (c : Nat) (w : World)
set_option maxRecDepth 100000 in
set_option maxHeartbeats 1600000 in
theorem rDec_short (hA : IntsAt w w.heap.size .u8 A bs) (hz : Within 0 255 bs) (hm : bs.length ≤ maxLen) (h : bs.length < 4) : Calls Try.prog 23 #[.slice A bs.length c] w (DecR (Rep.Rpt.zero, (bs.length : Int), 6) w) := by
  have h' : (bs.length : Int) < 4 := by omega
  unfold maxLen at hm
  clear hA hz
  go_enter Try.func23, Try.ntmps23
  have U := Lib.hid (Bel.push (Bel.push (Bel.refl w) (.cells #[.bool false, .int .u32 0, .int .u64 0, .int .u32 0, .int .u32 0, .int .u32 0, .slice none 0 0] 47)) (.cells #[.bool false, .int .u32 0, .int .u64 0, .int .u32 0, .int .u32 0, .int .u32 0, .slice none 0 0] 47))
  have B := Lib.hid (Blk.push (Blk.new w 47 #[.bool false, .int .u32 0, .int .u64 0, .int .u32 0, .int .u32 0, .int .u32 0, .slice none 0 0]) (.cells #[.bool false, .int .u32 0, .int .u64 0, .int .u32 0, .int .u32 0, .int .u32 0, .slice none 0 0] 47))
  go_wp2_with fail
  exact bodyPost_ret (v := .tuple #[.agg #[.bool false, .int .u32 0, .int .u64 0, .int .u32 0, .int .u32 0, .int .u32 0, .slice none 0 0], .int .i64 bs.length, .int .u8 6]) (res_ctt Try.results23 rfl (run_loadVar_row (P := Try.prog) _ _ _ _ _ _ _ B.out Try.underlying47 rfl (by kernel_rfl)) rfl rfl) rfl ⟨none, 0, rfl, RowsNew.nil, U.out⟩
set_option maxRecDepth 100000 in
set_option maxHeartbeats 1600000 in
theorem rDec_ver (hA : IntsAt w w.heap.size .u8 A bs) (hz : Within 0 255 bs) (hm : bs.length ≤ maxLen) (h : 4 ≤ bs.length) (h2 : bs.getD 0 0 / 32 ≠ 4) : Calls Try.prog 23 #[.slice A bs.length c] w (DecR (Rep.Rpt.zero, 0, 15) w) := by
  have h4 : ¬bs.length < 4 := by omega
  obtain ⟨b, off, rfl, hbB, hcell⟩ := hA (by omega)
  have q0 := (cell_new_old (cell_new_old (show w.cell? ⟨b, off, none⟩ = some (.int .u8 (bs.getD 0 0)) from hcell 0 (by omega)) (.cells #[.bool false, .int .u32 0, .int .u64 0, .int .u32 0, .int .u32 0, .int .u32 0, .slice none 0 0] 47)) (.cells #[.bool false, .int .u32 0, .int .u64 0, .int .u32 0, .int .u32 0, .int .u32 0, .slice none 0 0] 47))
  obtain ⟨m0, n0⟩ := hz.at (i := 0) (by omega)
  generalize bs.getD 0 0 = x0 at *
  unfold maxLen at hm
  clear hA hz hcell
  have t0 : (0 : Int) < (bs.length : Int) := by omega
  have k1 : (x0 / 32 != 4) = true := bne_iff_ne.2 h2
  go_enter Try.func23, Try.ntmps23
  have U := Lib.hid (Bel.push (Bel.push (Bel.refl w) (.cells #[.bool false, .int .u32 0, .int .u64 0, .int .u32 0, .int .u32 0, .int .u32 0, .slice none 0 0] 47)) (.cells #[.bool false, .int .u32 0, .int .u64 0, .int .u32 0, .int .u32 0, .int .u32 0, .slice none 0 0] 47))
  have B := Lib.hid (Blk.push (Blk.new w 47 #[.bool false, .int .u32 0, .int .u64 0, .int .u32 0, .int .u32 0, .int .u32 0, .slice none 0 0]) (.cells #[.bool false, .int .u32 0, .int .u64 0, .int .u32 0, .int .u32 0, .int .u32 0, .slice none 0 0] 47))
  go_wp2_with fail
  exact bodyPost_ret (v := .tuple #[.agg #[.bool false, .int .u32 0, .int .u64 0, .int .u32 0, .int .u32 0, .int .u32 0, .slice none 0 0], .int .i64 0, .int .u8 15]) (res_ctt Try.results23 rfl (run_loadVar_row (P := Try.prog) _ _ _ _ _ _ _ B.out Try.underlying47 rfl (by kernel_rfl)) rfl rfl) rfl ⟨none, 0, rfl, RowsNew.nil, U.out⟩
set_option maxRecDepth 100000 in
set_option maxHeartbeats 1600000 in
theorem rDec_kind (hA : IntsAt w w.heap.size .u8 A bs) (hz : Within 0 255 bs) (hm : bs.length ≤ maxLen) (h : 4 ≤ bs.length) (h2 : bs.getD 0 0 / 32 = 4) (h3 : bs.getD 1 0 ≠ 200 ∧ bs.getD 1 0 ≠ 201) : Calls Try.prog 23 #[.slice A bs.length c] w (DecR (Rep.Rpt.zero, 1, 15) w) := by
  have h4 : ¬bs.length < 4 := by omega
  obtain ⟨b, off, rfl, hbB, hcell⟩ := hA (by omega)
  have q0 := (cell_new_old (cell_new_old (show w.cell? ⟨b, off, none⟩ = some (.int .u8 (bs.getD 0 0)) from hcell 0 (by omega)) (.cells #[.bool false, .int .u32 0, .int .u64 0, .int .u32 0, .int .u32 0, .int .u32 0, .slice none 0 0] 47)) (.cells #[.bool false, .int .u32 0, .int .u64 0, .int .u32 0, .int .u32 0, .int .u32 0, .slice none 0 0] 47))
  obtain ⟨m0, n0⟩ := hz.at (i := 0) (by omega)
  have q1 := (cell_new_old (cell_new_old (show w.cell? ⟨b, off + 1, none⟩ = some (.int .u8 (bs.getD 1 0)) from hcell 1 (by omega)) (.cells #[.bool false, .int .u32 0, .int .u64 0, .int .u32 0, .int .u32 0, .int .u32 0, .slice none 0 0] 47)) (.cells #[.bool false, .int .u32 0, .int .u64 0, .int .u32 0, .int .u32 0, .int .u32 0, .slice none 0 0] 47))
  obtain ⟨m1, n1⟩ := hz.at (i := 1) (by omega)
  generalize bs.getD 0 0 = x0 at *
  generalize bs.getD 1 0 = x1 at *
  unfold maxLen at hm
  clear hA hz hcell
  have h3' : x1 < 200 ∨ ¬x1 < 200 ∧ 201 < x1 := by omega
  clear h3
  have k1 : (x0 / 32 != 4) = false := by simp [h2]
  clear h2
  rcases h3' with h3 | ⟨h3, h3'⟩
  all_goals

    have t0 : (0 : Int) < (bs.length : Int) := by omega
    have t1 : (1 : Int) < (bs.length : Int) := by omega
    go_enter Try.func23, Try.ntmps23
    have U := Lib.hid (Bel.push (Bel.push (Bel.refl w) (.cells #[.bool false, .int .u32 0, .int .u64 0, .int .u32 0, .int .u32 0, .int .u32 0, .slice none 0 0] 47)) (.cells #[.bool false, .int .u32 0, .int .u64 0, .int .u32 0, .int .u32 0, .int .u32 0, .slice none 0 0] 47))
    have B := Lib.hid (Blk.push (Blk.new w 47 #[.bool false, .int .u32 0, .int .u64 0, .int .u32 0, .int .u32 0, .int .u32 0, .slice none 0 0]) (.cells #[.bool false, .int .u32 0, .int .u64 0, .int .u32 0, .int .u32 0, .int .u32 0, .slice none 0 0] 47))
    go_wp2_with fail
    exact bodyPost_ret (v := .tuple #[.agg #[.bool false, .int .u32 0, .int .u64 0, .int .u32 0, .int .u32 0, .int .u32 0, .slice none 0 0], .int .i64 1, .int .u8 15]) (res_ctt Try.results23 rfl (run_loadVar_row (P := Try.prog) _ _ _ _ _ _ _ B.out Try.underlying47 rfl (by kernel_rfl)) rfl rfl) rfl ⟨none, 0, rfl, RowsNew.nil, U.out⟩
end
end Go.Proofs.Ythmcbmjjngolmaa

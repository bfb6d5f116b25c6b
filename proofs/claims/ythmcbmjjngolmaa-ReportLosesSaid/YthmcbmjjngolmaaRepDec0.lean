/- Layer 26: Decode of the program: what it refuses. -/
import Derived.Test.YthmcbmjjngolmaaRepNext
import Derived.Test.YthmcbmjjngolmaaRepEncP
import Derived.Test.YthmcbmjjngolmaaRowed
import Derived.Laws.Rows
import Derived.BigQuiet
import Derived.Deep.QuietTactic
namespace Go.Proofs.Ythmcbmjjngolmaa
open Go.RowKit
set_option linter.unusedVariables false
set_option linter.unusedSimpArgs false
attribute [local go_sem] setCell_drewN alloc_drewN
def Rep.Rpt.row (r : Rep.Rpt) (Bl : Option Addr) (cb : Nat) : Array Value := #[.bool r.sender, .int .u32 r.source, .int .u64 r.clock, .int .u32 r.time, .int .u32 r.packets, .int .u32 r.octets, .slice Bl r.blocks.length cb]
/-- what Decode leaves -/
def DecR (R : Rep.Rpt × Int × Int) (w : World) (e : Ending) (w' : World) : Prop :=
  ∃ (Bl : Option Addr) (cb : Nat), e = .returned (.tuple #[.agg (R.1.row Bl cb), .int .i64 R.2.1, .int .u8 R.2.2]) ∧ RowsNew w.heap.size w' 7 Rep.Bk.cells Bl R.1.blocks ∧ Bel w w'
section
variable (A : Option Addr) (bs : List Int) (c : Nat) (w : World)
set_option maxRecDepth 100000 in
set_option maxHeartbeats 1600000 in
theorem Dec_short (hA : IntsAt w w.heap.size .u8 A bs) (hz : Within 0 255 bs) (hm : bs.length ≤ maxLen) (h : bs.length < 4) : Calls Try.prog 18 #[.slice A bs.length c] w (DecR (Rep.Rpt.zero, (bs.length : Int), 6) w) := by
  have h' : (bs.length : Int) < 4 := by omega
  unfold maxLen at hm
  clear hA hz
  go_enter Try.func18, Try.ntmps18
  have U := Lib.hid (Bel.push (Bel.push (Bel.refl w) (.cells #[.slice A bs.length c] 40)) (.cells #[.bool false, .int .u32 0, .int .u64 0, .int .u32 0, .int .u32 0, .int .u32 0, .slice none 0 0] 47))
  have B := Lib.hid (Blk.new1 w (.cells #[.slice A bs.length c] 40) 47 #[.bool false, .int .u32 0, .int .u64 0, .int .u32 0, .int .u32 0, .int .u32 0, .slice none 0 0])
  have X := Lib.hid ((Blk.new w 40 #[.slice A bs.length c]).push (.cells #[.bool false, .int .u32 0, .int .u64 0, .int .u32 0, .int .u32 0, .int .u32 0, .slice none 0 0] 47))
  go_wp2_with fail
  go_region
  go_wp2_with fail
  exact bodyPost_ret (v := .tuple #[.agg #[.bool false, .int .u32 0, .int .u64 0, .int .u32 0, .int .u32 0, .int .u32 0, .slice none 0 0], .int .i64 bs.length, .int .u8 6]) (res_ctt Try.results18 rfl (run_loadVar_row (P := Try.prog) _ _ _ _ _ _ _ (B.out.drew) Try.underlying47 rfl (by kernel_rfl)) rfl rfl) rfl ⟨none, 0, rfl, RowsNew.nil, U.out.drew⟩
set_option maxRecDepth 100000 in
set_option maxHeartbeats 1600000 in
theorem Dec_ver (hA : IntsAt w w.heap.size .u8 A bs) (hz : Within 0 255 bs) (hm : bs.length ≤ maxLen) (h : 4 ≤ bs.length) (h2 : bs.getD 0 0 / 32 ≠ 4) : Calls Try.prog 18 #[.slice A bs.length c] w (DecR (Rep.Rpt.zero, 0, 15) w) := by
  have h4 : ¬bs.length < 4 := by omega
  obtain ⟨b, off, rfl, hbB, hcell⟩ := hA (by omega)
  have q0 := (cell_new_old (cell_new_old (show w.cell? ⟨b, off, none⟩ = some (.int .u8 (bs.getD 0 0)) from hcell 0 (by omega)) (.cells #[.slice (some ⟨b, off, none⟩) bs.length c] 40)) (.cells #[.bool false, .int .u32 0, .int .u64 0, .int .u32 0, .int .u32 0, .int .u32 0, .slice none 0 0] 47))
  obtain ⟨m0, n0⟩ := hz.at (i := 0) (by omega)
  generalize bs.getD 0 0 = x0 at *
  unfold maxLen at hm
  clear hA hz hcell
  have t0 : (0 : Int) < (bs.length : Int) := by omega
  have k1 : (x0 / 32 != 4) = true := bne_iff_ne.2 h2
  go_enter Try.func18, Try.ntmps18
  have U := Lib.hid (Bel.push (Bel.push (Bel.refl w) (.cells #[.slice (some ⟨b, off, none⟩) bs.length c] 40)) (.cells #[.bool false, .int .u32 0, .int .u64 0, .int .u32 0, .int .u32 0, .int .u32 0, .slice none 0 0] 47))
  have B := Lib.hid (Blk.new1 w (.cells #[.slice (some ⟨b, off, none⟩) bs.length c] 40) 47 #[.bool false, .int .u32 0, .int .u64 0, .int .u32 0, .int .u32 0, .int .u32 0, .slice none 0 0])
  have X := Lib.hid ((Blk.new w 40 #[.slice (some ⟨b, off, none⟩) bs.length c]).push (.cells #[.bool false, .int .u32 0, .int .u64 0, .int .u32 0, .int .u32 0, .int .u32 0, .slice none 0 0] 47))
  go_wp2_with fail
  go_wp2_with fail
  exact bodyPost_ret (v := .tuple #[.agg #[.bool false, .int .u32 0, .int .u64 0, .int .u32 0, .int .u32 0, .int .u32 0, .slice none 0 0], .int .i64 0, .int .u8 15]) (res_ctt Try.results18 rfl (run_loadVar_row (P := Try.prog) _ _ _ _ _ _ _ (B.out) Try.underlying47 rfl (by kernel_rfl)) rfl rfl) rfl ⟨none, 0, rfl, RowsNew.nil, U.out⟩
set_option maxRecDepth 100000 in
set_option maxHeartbeats 1600000 in
theorem Dec_kind (hA : IntsAt w w.heap.size .u8 A bs) (hz : Within 0 255 bs) (hm : bs.length ≤ maxLen) (h : 4 ≤ bs.length) (h2 : bs.getD 0 0 / 32 = 4) (h3 : bs.getD 1 0 ≠ 200 ∧ bs.getD 1 0 ≠ 201) : Calls Try.prog 18 #[.slice A bs.length c] w (DecR (Rep.Rpt.zero, 1, 15) w) := by
  have h4 : ¬bs.length < 4 := by omega
  obtain ⟨b, off, rfl, hbB, hcell⟩ := hA (by omega)
  have q0 := (cell_new_old (cell_new_old (show w.cell? ⟨b, off, none⟩ = some (.int .u8 (bs.getD 0 0)) from hcell 0 (by omega)) (.cells #[.slice (some ⟨b, off, none⟩) bs.length c] 40)) (.cells #[.bool false, .int .u32 0, .int .u64 0, .int .u32 0, .int .u32 0, .int .u32 0, .slice none 0 0] 47))
  obtain ⟨m0, n0⟩ := hz.at (i := 0) (by omega)
  have q1 := (cell_new_old (cell_new_old (show w.cell? ⟨b, off + 1, none⟩ = some (.int .u8 (bs.getD 1 0)) from hcell 1 (by omega)) (.cells #[.slice (some ⟨b, off, none⟩) bs.length c] 40)) (.cells #[.bool false, .int .u32 0, .int .u64 0, .int .u32 0, .int .u32 0, .int .u32 0, .slice none 0 0] 47))
  obtain ⟨m1, n1⟩ := hz.at (i := 1) (by omega)
  generalize bs.getD 0 0 = x0 at *
  generalize bs.getD 1 0 = x1 at *
  unfold maxLen at hm
  clear hA hz hcell
  have t0 : (0 : Int) < (bs.length : Int) := by omega
  have t1 : (1 : Int) < (bs.length : Int) := by omega
  have k1 : (x0 / 32 != 4) = false := by simp [h2]
  have k2 : (x1 != 200) = true := bne_iff_ne.2 h3.1
  have k3 : (x1 != 201) = true := bne_iff_ne.2 h3.2
  clear h2 h3
  go_enter Try.func18, Try.ntmps18
  have U := Lib.hid (Bel.push (Bel.push (Bel.refl w) (.cells #[.slice (some ⟨b, off, none⟩) bs.length c] 40)) (.cells #[.bool false, .int .u32 0, .int .u64 0, .int .u32 0, .int .u32 0, .int .u32 0, .slice none 0 0] 47))
  have B := Lib.hid (Blk.new1 w (.cells #[.slice (some ⟨b, off, none⟩) bs.length c] 40) 47 #[.bool false, .int .u32 0, .int .u64 0, .int .u32 0, .int .u32 0, .int .u32 0, .slice none 0 0])
  have X := Lib.hid ((Blk.new w 40 #[.slice (some ⟨b, off, none⟩) bs.length c]).push (.cells #[.bool false, .int .u32 0, .int .u64 0, .int .u32 0, .int .u32 0, .int .u32 0, .slice none 0 0] 47))
  go_wp2_with fail
  go_wp2_with fail
  exact bodyPost_ret (v := .tuple #[.agg #[.bool false, .int .u32 0, .int .u64 0, .int .u32 0, .int .u32 0, .int .u32 0, .slice none 0 0], .int .i64 1, .int .u8 15]) (res_ctt Try.results18 rfl (run_loadVar_row (P := Try.prog) _ _ _ _ _ _ _ (B.out) Try.underlying47 rfl (by kernel_rfl)) rfl rfl) rfl ⟨none, 0, rfl, RowsNew.nil, U.out⟩
end
end Go.Proofs.Ythmcbmjjngolmaa

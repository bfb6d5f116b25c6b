/- Layer 28: Unpack of the program, no samples. -/
import Derived.Test.YtcnijhcoifodpaaDelUnpack
namespace Go.Proofs.Ytcnijhcoifodpaa
open Go.RowKit
set_option linter.unusedVariables false
attribute [local go_sem] setCell_drewN alloc_drewN
set_option maxHeartbeats 3200000 in
theorem Unpack_zero (A : Option Addr) (bs : List Int) (cap : Nat) (w : World) (hA : IntsAt w w.heap.size .u8 A bs) (hz : Within 0 255 bs) (hok : Dlt.okB bs 0) (hcap : bs.length ≤ cap) :
    Calls Try.prog 21 #[.slice A bs.length cap, .int .i64 0] w fun e w' => ∃ (A' : Option Addr) (c' : Nat), e = .returned (.tuple #[.slice A' 0 c', .agg #[.int .i64 (Dlt.dAt (Dlt.headS bs) bs 0).1, .int .i64 (Dlt.dAt (Dlt.headS bs) bs 0).2], .int .u8 0]) ∧
      IntsAt w' w'.heap.size .i16 A' (Dlt.unpackL bs 0) ∧ Below w.heap.size w w' := by
  have HVAL := Lib.hid (Dlt.headS_valid bs 0 hok hz)
  obtain ⟨ok1, ok2, ok3, ok4⟩ := hok
  obtain ⟨b, off, rfl, hbB, hcell⟩ := hA (by omega)
  have c0 := hcell 0 (by omega)
  have c1 := hcell 1 (by omega)
  have c2 := hcell 2 (by omega)
  have c3 := hcell 3 (by omega)
  obtain ⟨a0, a1⟩ := hz.at (i := 0) (by omega)
  obtain ⟨b0, b1⟩ := hz.at (i := 1) (by omega)
  obtain ⟨g0, g1⟩ := hz.at (i := 2) (by omega)
  have hb' : b ≠ w.heap.size := by omega
  have hb'' : b ≠ w.heap.size + 1 := by omega
  generalize hx0 : bs.getD 0 0 = x0 at *
  generalize hx1 : bs.getD 1 0 = x1 at *
  generalize hx2 : bs.getD 2 0 = x2 at *
  generalize hx3 : bs.getD 3 0 = x3 at *
  have HX3 := Lib.hid (show bs.getD 3 0 = 0 by rw [hx3, ok3])
  subst ok3
  have HX0 := Lib.hid hx0
  have HX1 := Lib.hid hx1
  have HX2 := Lib.hid hx2
  have HCELL := Lib.hid hcell
  have HZ := Lib.hid hz
  generalize hM : bs.length = M at *
  have HMM := Lib.hid hM
  clear hA hz hcell hx0 hx1 hx2 hM
  obtain rfl : M = 4 := by omega
  clear ok1 ok4
  have cc0 : (w.alloc (.cells #[.int .i64 0, .int .i64 0] 23)).cell? ⟨b, off, none⟩ = some (.int .u8 x0) := (World.cell?_alloc_lt w _ _ hbB).trans c0
  have cc1 : (w.alloc (.cells #[.int .i64 0, .int .i64 0] 23)).cell? ⟨b, off + 1, none⟩ = some (.int .u8 x1) := (World.cell?_alloc_lt w _ _ hbB).trans c1
  have cc2 : (w.alloc (.cells #[.int .i64 0, .int .i64 0] 23)).cell? ⟨b, off + 2, none⟩ = some (.int .u8 x2) := (World.cell?_alloc_lt w _ _ hbB).trans c2
  have cc3 : (w.alloc (.cells #[.int .i64 0, .int .i64 0] 23)).cell? ⟨b, off + 3, none⟩ = some (.int .u8 0) := (World.cell?_alloc_lt w _ _ hbB).trans c3
  have cd0 : ((w.alloc (.cells #[.int .i64 0, .int .i64 0] 23)).alloc (.cells #[.int .i64 0, .int .i64 0] 23)).cell? ⟨b, off, none⟩ = some (.int .u8 x0) := (World.cell?_alloc_lt _ _ _ (by simp; omega)).trans ((World.cell?_alloc_lt w _ _ hbB).trans c0)
  have cd1 : ((w.alloc (.cells #[.int .i64 0, .int .i64 0] 23)).alloc (.cells #[.int .i64 0, .int .i64 0] 23)).cell? ⟨b, off + 1, none⟩ = some (.int .u8 x1) := (World.cell?_alloc_lt _ _ _ (by simp; omega)).trans ((World.cell?_alloc_lt w _ _ hbB).trans c1)
  have cd2 : ((w.alloc (.cells #[.int .i64 0, .int .i64 0] 23)).alloc (.cells #[.int .i64 0, .int .i64 0] 23)).cell? ⟨b, off + 2, none⟩ = some (.int .u8 x2) := (World.cell?_alloc_lt _ _ _ (by simp; omega)).trans ((World.cell?_alloc_lt w _ _ hbB).trans c2)
  clear c0 c1 c2 c3
  go_enter Try.func21, Try.ntmps21
  go_wp2_with fail
  refine (blockSize_any 0 _ (by omega)).mono ?_
  rintro e w' ⟨rfl, rfl⟩
  go_wp2_with fail
  refine (blockSize_any 0 _ (by omega)).mono ?_
  rintro e w' ⟨rfl, rfl⟩
  have HI2 := Lib.hid szA_info
  have hz89 := zero89
  all_goals
    go_wp2_with fail
    go_region
    go_wp2_with fail
    have hhw := head_word x0 x1 a0 a1 b0 b1
    generalize wrap64 (IntKind.i16.wrap (bits BinOp.or IntKind.u16 (x0 * 256) x1)) = V0 at *
    refine (sizes_any _).mono ?_
    rintro e w3 ⟨rfl, hb3⟩
    have b0 : Blk ((w.alloc (.cells #[.int .i64 0, .int .i64 0] 23)).alloc (.cells #[.int .i64 V0, .int .i64 x2] 23)).drew w.heap.size 23 #[.int .i64 0, .int .i64 0] := ((Blk.new w _ _).alloc _).drew
    have b1 : Blk ((w.alloc (.cells #[.int .i64 0, .int .i64 0] 23)).alloc (.cells #[.int .i64 V0, .int .i64 x2] 23)).drew (w.heap.size + 1) 23 #[.int .i64 V0, .int .i64 x2] := by
      have h := Blk.new (w.alloc (.cells #[.int .i64 0, .int .i64 0] 23)) 23 #[.int .i64 V0, .int .i64 x2]
      rw [show (w.alloc (.cells #[.int .i64 0, .int .i64 0] 23)).heap.size = w.heap.size + 1 by simp] at h
      exact h.drew
    have hbw : Below w.heap.size w ((w.alloc (.cells #[.int .i64 0, .int .i64 0] 23)).alloc (.cells #[.int .i64 V0, .int .i64 x2] 23)).drew := (((Below.refl _ w).alloc (Nat.le_refl _) _).alloc (by simp) _).drew
    have hs3 : w.heap.size + 1 + 1 ≤ w3.heap.size := by have := hb3.size; simpa using this
    have HB0 := Lib.hid ((b0.later hb3).later (laid_below w3))
    have HB1 := Lib.hid ((b1.later hb3).later (laid_below w3))
    have HBW := Lib.hid ((hbw.trans (hb3.mono hbw.size)).trans ((laid_below w3).mono (by omega)))
    have HST := Lib.hid (laid_steps w3)
    have HT := Lib.hid (laid_there w3)
    have HSZ := Lib.hid (laid_size w3)
    have hmk := run_make_row' (P := Try.prog) 36 24 (.int .i16 0) 2 Try.underlying36 info_i16 rfl .i64 .i64 0 (by omega) (by omega) (laidW w3)
    change (Instr.makeSlice 36 (.int .i64 0) (.int .i64 0)).run Try.prog _ = _ at hmk
    clear b0 b1 hbw hb3 cc0 cc1 cc2 cc3 cd0 cd1 cd2
    go_wp2_with (first
      | (refine wpList_store_mid rfl 46 (.tmp 9) (.tmp 82) (by rfl) w3.heap.size 0 Dlt.szA (by rfl) (by rfl) HT.out HI2.out szA_one ?_; change wpList _ _ _ _ _ (laidW w3); generalize laidW w3 = W4 at *; generalize w3.heap.size = gt at *; clear hz89 HT HI2)
      | fail)
    have HH : Hid (Dlt.headS bs = (V0, x2)) := Lib.hid (by unfold Dlt.headS; rw [HX0.out, HX1.out, HX2.out, hhw])
    have HSV0 : Hid (Dlt.valid V0 x2 = true) := Lib.hid (by have h := HVAL.out; rw [HH.out] at h; exact h)
    generalize hr : W4.heap.size = r at *
    have hs4 : w.heap.size + 1 + 1 ≤ r := by have := HSZ.out; omega
    have HSZ' := Lib.hid HSZ.out
    clear hmk hhw
    go_loopw [86] (fun q wr => q = .int .i64 0 ∧ Blk wr w.heap.size 23 #[.int .i64 0, .int .i64 0] ∧
        Blk wr (w.heap.size + 1) 23 #[.int .i64 V0, .int .i64 x2] ∧ Below w.heap.size w wr)
      (fun q _ => 0)
    case atStart => exact ⟨rfl, HB0.out.alloc _, HB1.out.alloc _, HBW.out.alloc (by omega) _⟩
    case round =>
      obtain ⟨rfl, B0, B1, hb⟩ := hrel
      clear HB0 HB1 HST HBW
      have HHH := Lib.hid (show Dlt.headS bs = (V0, x2) from HH.out)
      have HB := Lib.hid hb
      have c0 := B1.at 0 _ rfl
      have c1 := B1.at 1 _ rfl
      have d0 := B0.at 0 _ rfl
      have d1 := B0.at 1 _ rfl
      have f0 := B0.frozen 0
      have f1 := B0.frozen 1
      clear B0 B1 hb
      go_wp2
      go_region
      go_wp2
      refine bodyPost_ret (v := .tuple #[.slice (some ⟨r, 0, none⟩) 0 0, .agg #[.int .i64 V0, .int .i64 x2], .int .u8 0]) (by simp [results, Try.results21, go_sem, d0, d1]) rfl ?_
      refine ⟨some ⟨r, 0, none⟩, 0, by rw [HHH.out]; rfl, ?_, ?_⟩
      · exact IntsAt.nil
      · exact ((HB.out.setCell (by simp) _).setCell (by simp) _).drew
end Go.Proofs.Ytcnijhcoifodpaa

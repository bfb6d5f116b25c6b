/- Layer 26: block of the reference. -/
import Derived.Test.YthmcbmjjngolmaaRepDec2
import Derived.StillTailTactics
namespace Go.Proofs.Ythmcbmjjngolmaa
open Go.RowKit
set_option linter.unusedVariables false
set_option linter.unusedSimpArgs false
attribute [local go_sem] setCell_drewN alloc_drewN
theorem IntsAt.sub {w : World} {B : Nat} {k : IntKind} {b off : Nat} {zs : List Int} (h : IntsAt w B k (some ⟨b, off, none⟩) zs) (i m : Nat) (hi : i + m ≤ zs.length) : IntsAt w B k (some ⟨b, off + i, none⟩) ((zs.drop i).take m) := fun h0 => by
  have hm : 0 < m := by simp at h0; omega
  obtain ⟨b', off', e, hb, hc⟩ := h (by omega)
  injection e with e
  injection e with e1 e2
  subst e1 e2
  refine ⟨b, off + i, rfl, hb, fun j hj => ?_⟩
  have hj' : j < m := by simp at hj; omega
  rw [Nat.add_assoc, hc (i + j) (by omega)]
  simp [List.getD_eq_getElem?_getD, hj']
theorem value_sub {w : World} {B b off c n i m : Nat} {bs : List Int} (hA : IntsAt w B .u8 (some ⟨b, off, none⟩) bs) (hb : Within 0 255 bs) (hi : i + m ≤ bs.length) (hm : m ≤ 8) (hn : m = n) :
    Calls Try.prog 36 #[.slice (some ⟨b, off + i, none⟩) n c] w fun e w' => e = .returned (.int .u64 (fld bs i m)) ∧ w = w' := by
  subst hn
  exact value_any _ _ c w B (hA.sub i m hi) ((hb.drop i).take m) (by simp; omega) m (by simp; omega)
theorem value_sub' {w : World} {B b off c n i m : Nat} {bs : List Int} (hA : IntsAt w B .u8 (some ⟨b, off, none⟩) bs) (hb : Within 0 255 bs) (hi : i + m ≤ bs.length) (hm : m ≤ 8) (hn : m = n) :
    Calls Try.prog 36 #[.slice (some ⟨b, off + i, none⟩) n c] w fun e w' => e = .returned (.int .u64 (fld bs i m)) ∧ w' = w :=
  (value_sub hA hb hi hm hn).mono fun _ _ h => ⟨h.1, h.2.symm⟩
section
variable (b off c : Nat) (bs : List Int) (w : World)
set_option maxRecDepth 100000 in
set_option maxHeartbeats 3200000 in
theorem rblock_yes (hA : IntsAt w w.heap.size .u8 (some ⟨b, off, none⟩) bs) (hz : Within 0 255 bs) (hl : bs.length = 24) (hc : 24 ≤ c) (hx : 8388608 ≤ fld bs 5 3) : Calls Try.prog 37 #[.slice (some ⟨b, off, none⟩) 24 c] w fun e w' => e = .returned (.agg #[.int .u32 (fld bs 0 4), .int .u8 (bs.getD 4 0), .int .i64 (fld bs 5 3 - 16777216), .int .u32 (fld bs 8 4), .int .u32 (fld bs 12 4), .int .u32 (fld bs 16 4), .int .u32 (fld bs 20 4)]) ∧ Below w.heap.size w w' := by
  obtain ⟨b', off', e, hbB, hcell⟩ := hA (by omega)
  injection e with e
  injection e with e1 e2
  subst e1 e2
  have q4 : (w.alloc (.cells #[.int .u32 0, .int .u8 0, .int .i64 0, .int .u32 0, .int .u32 0, .int .u32 0, .int .u32 0] 27)).cell? ⟨b, off + 4, none⟩ = some (.int .u8 (bs.getD 4 0)) := cell_new_old (hcell 4 (by omega)) _
  have HA : Hid (IntsAt (w.alloc (.cells #[.int .u32 0, .int .u8 0, .int .i64 0, .int .u32 0, .int .u32 0, .int .u32 0, .int .u32 0] 27)) w.heap.size .u8 (some ⟨b, off, none⟩) bs) := Lib.hid (hA.alloc (Nat.le_refl _) _)
  have HB := Lib.hid hz
  have HL := Lib.hid hl
  have U := Lib.hid ((Bel.refl w).push (.cells #[.int .u32 (fld bs 0 4), .int .u8 (bs.getD 4 0), .int .i64 (fld bs 5 3 - 16777216), .int .u32 (fld bs 8 4), .int .u32 (fld bs 12 4), .int .u32 (fld bs 16 4), .int .u32 (fld bs 20 4)] 27))
  have B := Lib.hid (Blk.new w 27 #[.int .u32 (fld bs 0 4), .int .u8 (bs.getD 4 0), .int .i64 (fld bs 5 3 - 16777216), .int .u32 (fld bs 8 4), .int .u32 (fld bs 12 4), .int .u32 (fld bs 16 4), .int .u32 (fld bs 20 4)])
  obtain ⟨ma2, mb2, mc2, md2⟩ := fld_mod3 bs 5 hz (by omega)
  obtain ⟨na0, nb0⟩ := fld_mod bs 0 hz (by omega)
  obtain ⟨na1, nb1⟩ := fld_mod bs 8 hz (by omega)
  obtain ⟨na3, nb3⟩ := fld_mod bs 12 hz (by omega)
  obtain ⟨na4, nb4⟩ := fld_mod bs 16 hz (by omega)
  obtain ⟨na5, nb5⟩ := fld_mod bs 20 hz (by omega)
  clear hA hz hl hcell
  have d4 : (4 : Int) ≤ (c : Int) := by omega
  have d8 : (8 : Int) ≤ (c : Int) := by omega
  have d12 : (12 : Int) ≤ (c : Int) := by omega
  have d16 : (16 : Int) ≤ (c : Int) := by omega
  have d20 : (20 : Int) ≤ (c : Int) := by omega
  have d24 : (24 : Int) ≤ (c : Int) := by omega
  have n8 : ¬c = 8 := by omega
  have n12 : ¬c = 12 := by omega
  have n16 : ¬c = 16 := by omega
  have n20 : ¬c = 20 := by omega
  go_enter Try.func37, Try.ntmps37
  go_wp2_with fail
  refine (value_sub (i := 5) (m := 3) HA.out HB.out (by have := HL.out; omega) (by omega) rfl).mono ?_
  rintro e w1 ⟨rfl, rfl⟩
  go_wp2_with fail
  obtain ⟨W, hW⟩ : ∃ W, W = w.alloc (.cells #[.int .u32 0, .int .u8 0, .int .i64 0, .int .u32 0, .int .u32 0, .int .u32 0, .int .u32 0] 27) := ⟨_, rfl⟩
  rw [← hW] at q4 HA ⊢
  have HWW := Lib.hid hW
  clear hW
  have q4' : ({ W with drawn := W.drawn + 1 } : World).cell? ⟨b, off + 4, none⟩ = some (.int .u8 (bs.getD 4 0)) := q4
  go_still_tail 25, (by kernel_rfl)
  still_call (value_sub' (i := 0) (m := 4) HA.out HB.out (by have := HL.out; omega) (by omega) rfl)
  repeat still_step
  still_call (value_sub' (i := 8) (m := 4) HA.out HB.out (by have := HL.out; omega) (by omega) rfl)
  repeat still_step
  still_call (value_sub' (i := 12) (m := 4) HA.out HB.out (by have := HL.out; omega) (by omega) rfl)
  repeat still_step
  still_call (value_sub' (i := 16) (m := 4) HA.out HB.out (by have := HL.out; omega) (by omega) rfl)
  repeat still_step
  still_call (value_sub' (i := 20) (m := 4) HA.out HB.out (by have := HL.out; omega) (by omega) rfl)
  repeat still_step
  refine wpStill_nil ?_
  change wpList _ _ _ _ _ (World.drew _)
  rw [HWW.out]
  go_wp2_with fail
  exact bodyPost_ret (v := .agg #[.int .u32 (fld bs 0 4), .int .u8 (bs.getD 4 0), .int .i64 (fld bs 5 3 - 16777216), .int .u32 (fld bs 8 4), .int .u32 (fld bs 12 4), .int .u32 (fld bs 16 4), .int .u32 (fld bs 20 4)]) (res_c Try.results37 rfl (run_loadVar_row (P := Try.prog) _ _ _ _ _ _ _ (B.out.drew) Try.underlying27 rfl (by kernel_rfl))) rfl ⟨rfl, U.out.drew⟩
set_option maxRecDepth 100000 in
set_option maxHeartbeats 3200000 in
theorem rblock_no (hA : IntsAt w w.heap.size .u8 (some ⟨b, off, none⟩) bs) (hz : Within 0 255 bs) (hl : bs.length = 24) (hc : 24 ≤ c) (hx : fld bs 5 3 < 8388608) : Calls Try.prog 37 #[.slice (some ⟨b, off, none⟩) 24 c] w fun e w' => e = .returned (.agg #[.int .u32 (fld bs 0 4), .int .u8 (bs.getD 4 0), .int .i64 (fld bs 5 3), .int .u32 (fld bs 8 4), .int .u32 (fld bs 12 4), .int .u32 (fld bs 16 4), .int .u32 (fld bs 20 4)]) ∧ Below w.heap.size w w' := by
  obtain ⟨b', off', e, hbB, hcell⟩ := hA (by omega)
  injection e with e
  injection e with e1 e2
  subst e1 e2
  have q4 : (w.alloc (.cells #[.int .u32 0, .int .u8 0, .int .i64 0, .int .u32 0, .int .u32 0, .int .u32 0, .int .u32 0] 27)).cell? ⟨b, off + 4, none⟩ = some (.int .u8 (bs.getD 4 0)) := cell_new_old (hcell 4 (by omega)) _
  have HA : Hid (IntsAt (w.alloc (.cells #[.int .u32 0, .int .u8 0, .int .i64 0, .int .u32 0, .int .u32 0, .int .u32 0, .int .u32 0] 27)) w.heap.size .u8 (some ⟨b, off, none⟩) bs) := Lib.hid (hA.alloc (Nat.le_refl _) _)
  have HB := Lib.hid hz
  have HL := Lib.hid hl
  have U := Lib.hid ((Bel.refl w).push (.cells #[.int .u32 (fld bs 0 4), .int .u8 (bs.getD 4 0), .int .i64 (fld bs 5 3), .int .u32 (fld bs 8 4), .int .u32 (fld bs 12 4), .int .u32 (fld bs 16 4), .int .u32 (fld bs 20 4)] 27))
  have B := Lib.hid (Blk.new w 27 #[.int .u32 (fld bs 0 4), .int .u8 (bs.getD 4 0), .int .i64 (fld bs 5 3), .int .u32 (fld bs 8 4), .int .u32 (fld bs 12 4), .int .u32 (fld bs 16 4), .int .u32 (fld bs 20 4)])
  obtain ⟨ma2, mb2, mc2, md2⟩ := fld_mod3 bs 5 hz (by omega)
  obtain ⟨na0, nb0⟩ := fld_mod bs 0 hz (by omega)
  obtain ⟨na1, nb1⟩ := fld_mod bs 8 hz (by omega)
  obtain ⟨na3, nb3⟩ := fld_mod bs 12 hz (by omega)
  obtain ⟨na4, nb4⟩ := fld_mod bs 16 hz (by omega)
  obtain ⟨na5, nb5⟩ := fld_mod bs 20 hz (by omega)
  clear hA hz hl hcell
  have d4 : (4 : Int) ≤ (c : Int) := by omega
  have d8 : (8 : Int) ≤ (c : Int) := by omega
  have d12 : (12 : Int) ≤ (c : Int) := by omega
  have d16 : (16 : Int) ≤ (c : Int) := by omega
  have d20 : (20 : Int) ≤ (c : Int) := by omega
  have d24 : (24 : Int) ≤ (c : Int) := by omega
  have n8 : ¬c = 8 := by omega
  have n12 : ¬c = 12 := by omega
  have n16 : ¬c = 16 := by omega
  have n20 : ¬c = 20 := by omega
  go_enter Try.func37, Try.ntmps37
  go_wp2_with fail
  refine (value_sub (i := 5) (m := 3) HA.out HB.out (by have := HL.out; omega) (by omega) rfl).mono ?_
  rintro e w1 ⟨rfl, rfl⟩
  go_wp2_with fail
  obtain ⟨W, hW⟩ : ∃ W, W = w.alloc (.cells #[.int .u32 0, .int .u8 0, .int .i64 0, .int .u32 0, .int .u32 0, .int .u32 0, .int .u32 0] 27) := ⟨_, rfl⟩
  rw [← hW] at q4 HA ⊢
  have HWW := Lib.hid hW
  clear hW
  have q4' : ({ W with drawn := W.drawn + 1 } : World).cell? ⟨b, off + 4, none⟩ = some (.int .u8 (bs.getD 4 0)) := q4
  go_still_tail 25, (by kernel_rfl)
  still_call (value_sub' (i := 0) (m := 4) HA.out HB.out (by have := HL.out; omega) (by omega) rfl)
  repeat still_step
  still_call (value_sub' (i := 8) (m := 4) HA.out HB.out (by have := HL.out; omega) (by omega) rfl)
  repeat still_step
  still_call (value_sub' (i := 12) (m := 4) HA.out HB.out (by have := HL.out; omega) (by omega) rfl)
  repeat still_step
  still_call (value_sub' (i := 16) (m := 4) HA.out HB.out (by have := HL.out; omega) (by omega) rfl)
  repeat still_step
  still_call (value_sub' (i := 20) (m := 4) HA.out HB.out (by have := HL.out; omega) (by omega) rfl)
  repeat still_step
  refine wpStill_nil ?_
  change wpList _ _ _ _ _ (World.drew _)
  rw [HWW.out]
  go_wp2_with fail
  exact bodyPost_ret (v := .agg #[.int .u32 (fld bs 0 4), .int .u8 (bs.getD 4 0), .int .i64 (fld bs 5 3), .int .u32 (fld bs 8 4), .int .u32 (fld bs 12 4), .int .u32 (fld bs 16 4), .int .u32 (fld bs 20 4)]) (res_c Try.results37 rfl (run_loadVar_row (P := Try.prog) _ _ _ _ _ _ _ (B.out.drew) Try.underlying27 rfl (by kernel_rfl))) rfl ⟨rfl, U.out.drew⟩
end
end Go.Proofs.Ythmcbmjjngolmaa

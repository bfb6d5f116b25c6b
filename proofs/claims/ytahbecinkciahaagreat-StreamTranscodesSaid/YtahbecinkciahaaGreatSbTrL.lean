/- Layer 32: the law StreamTranscodes. -/
import Derived.Test.YtahbecinkciahaaGreatSbTranA
import Derived.Test.YtahbecinkciahaaGreatSbLives
import Derived.Test.YtahbecinkciahaaGreatSbRTr
import Derived.Test.YtahbecinkciahaaGreatJtPlainQ
import Derived.BigQuiet
namespace Go.Proofs.YtahbecinkciahaaGreat
open Go.RowKit
set_option linter.unusedVariables false
set_option linter.unusedSimpArgs false
attribute [local go_sem ↓] run_min_plain run_max_plain
attribute [local go_sem] setCell_drewN alloc_drewN
theorem wf_bd8 {z : Int} (h : (Lit.int .u8 z).wf = true) : 0 ≤ z ∧ z ≤ 255 := by simp [Lit.wf, IntKind.min, IntKind.max, IntKind.signed, IntKind.bits] at h; omega
set_option maxRecDepth 100000 in
set_option maxHeartbeats 12800000 in
theorem trl_walk (w : World) (a : Int) (wa : (Lit.int .u8 a).wf = true) (b : Int) (wb : (Lit.int .u8 b).wf = true) (A : Option Addr) (bs : List Int) (c : Nat) (hl1 : bs.length ≤ c) (hm1 : c ≤ maxLen) (hA : IntsAt w w.heap.size .u8 A bs) (w2 : ∀ z ∈ bs, (Lit.int .u8 z).wf = true) (v i : Int) : Calls Tryz.prog 3 #[.int .u8 a, .int .u8 b, .slice A bs.length c, .agg #[.int .i64 v, .int .i64 i]] w fun e w' => e = .returned (.bool true) ∧ Below w.heap.size w w' := by
  obtain ⟨a0, a1⟩ := wf_bd8 wa
  obtain ⟨b0, b1⟩ := wf_bd8 wb
  have hz : Within 0 255 bs := fun z h => wf_bd8 (w2 z h)
  by_cases hbig : 5000 < (bs.length : Int)
  · go_enter Tryz.func3, Tryz.ntmps3
    go_wp2_with fail
    refine (lives_any _).mono ?_
    rintro e wv ⟨rfl, hbv⟩
    have UF := ((Bel.refl w).push (.cells #[.int .i64 v, .int .i64 i] 24)).later hbv
    go_wp2_with fail
    go_ret
    exact ⟨rfl, UF⟩
  have h5 : bs.length ≤ 5000 := by omega
  have h5i : ¬(5000 : Int) < (bs.length : Int) := hbig
  have kT := Lib.hid fun (W : World) hW => tran_any a b a0 a1 b0 b1 A bs c v i W hW hz h5 hl1
  have kR := Lib.hid fun (W : World) hW => rtran_any a b A bs c v i W hW hz h5 hl1
  have kA := Lib.hid fun (W : World) hW => tran_any 8 8 (by omega) (by omega) (by omega) (by omega) A bs c v i W hW hz h5 hl1
  have kM := Lib.hid fun (W : World) hW => tran_any 0 0 (by omega) (by omega) (by omega) (by omega) A bs c v i W hW hz h5 hl1
  rw [Sb.tran_a bs v i hz] at kA
  rw [Sb.tran_mu bs v i] at kM
  unfold TranR at kT kA kM
  unfold REncR at kR
  generalize Sb.tran a b bs v i = T at *
  obtain ⟨TL, ⟨TV, TI⟩, TE⟩ := T
  dsimp only at kT kA kM kR
  obtain ⟨ML, hML⟩ : ∃ M, M = bs.map Sb.muB := ⟨_, rfl⟩
  rw [← hML] at kM
  have hmlen : ML.length = bs.length := by rw [hML, List.length_map]
  have HMU : Hid (∀ k z, bs[k]? = some z → ML[k]? = some (Sb.muB z)) := Lib.hid fun k z h => by rw [hML, List.getElem?_map, h]; rfl
  have HZ := Lib.hid hz
  have HA := Lib.hid (hA.push (.cells #[.int .i64 v, .int .i64 i] 24))
  have B0 := Lib.hid (Blk.new w 24 #[.int .i64 v, .int .i64 i])
  have U := Lib.hid ((Bel.refl w).push (.cells #[.int .i64 v, .int .i64 i] 24))
  clear hA hz w2 wa wb hML hbig
  go_enter Tryz.func3, Tryz.ntmps3
  go_upto_region 1 with fail
  change Code.wp _ _ _ _ (w.alloc (Obj.cells #[.int .i64 v, .int .i64 i] 24))
  obtain ⟨W, hW⟩ : ∃ W, W = w.alloc (Obj.cells #[.int .i64 v, .int .i64 i] 24) := ⟨_, rfl⟩
  rw [← hW] at HA B0 U ⊢
  clear hW
  go_upto_region 3 with fail
  have s0 := B0.out.at 0 _ rfl
  have s1 := B0.out.at 1 _ rfl
  go_wp2_with fail
  refine (kT.out _ HA.out).mono ?_
  rintro e w3 ⟨A3, c3, rfl, hI, hb⟩
  replace HA := Lib.hid ((HA.out.later hb).push (.cells #[.int .i64 TV, .int .i64 TI] 24))
  replace B0 := Lib.hid ((B0.out.later hb).push (.cells #[.int .i64 TV, .int .i64 TI] 24))
  replace U := Lib.hid ((U.out.later hb).push (.cells #[.int .i64 TV, .int .i64 TI] 24))
  have H3 := Lib.hid (hI.push (.cells #[.int .i64 TV, .int .i64 TI] 24))
  have D3 := Lib.hid (Blk.new w3 24 #[.int .i64 TV, .int .i64 TI])
  clear hI hb s0 s1 kT
  have s0 := B0.out.at 0 _ rfl
  have s1 := B0.out.at 1 _ rfl
  go_wp2_with fail
  refine (kR.out _ HA.out).mono ?_
  rintro e w4 ⟨A4, c4, rfl, hI, hb⟩
  replace HA := Lib.hid ((HA.out.later hb).push (.cells #[.int .i64 TV, .int .i64 TI] 24))
  replace B0 := Lib.hid ((B0.out.later hb).push (.cells #[.int .i64 TV, .int .i64 TI] 24))
  replace U := Lib.hid ((U.out.later hb).push (.cells #[.int .i64 TV, .int .i64 TI] 24))
  replace H3 := Lib.hid ((H3.out.later hb).push (.cells #[.int .i64 TV, .int .i64 TI] 24))
  replace D3 := Lib.hid ((D3.out.later hb).push (.cells #[.int .i64 TV, .int .i64 TI] 24))
  have H4 := Lib.hid (hI.push (.cells #[.int .i64 TV, .int .i64 TI] 24))
  have D4 := Lib.hid (Blk.new w4 24 #[.int .i64 TV, .int .i64 TI])
  clear hI hb s0 s1 kR
  have hv1 := run_convert_ints H3.out 22 9 5 Tryz.underlying22 Tryz.underlying5 Tryz.underlying9 _ c3 rfl
  have hv2 := run_convert_ints H4.out 22 9 5 Tryz.underlying22 Tryz.underlying5 Tryz.underlying9 _ c4 rfl
  have p0 := D3.out.at 0 _ rfl
  have p1 := D3.out.at 1 _ rfl
  have q0 := D4.out.at 0 _ rfl
  have q1 := D4.out.at 1 _ rfl
  go_upto_region 7 with fail
  clear p0 p1 q0 q1 hv1 hv2 H3 H4 D3 D4
  have s0 := B0.out.at 0 _ rfl
  have s1 := B0.out.at 1 _ rfl
  go_wp2_with fail
  refine (kA.out _ HA.out).mono ?_
  rintro e w5 ⟨A5, c5, rfl, hI, hb⟩
  replace HA := Lib.hid ((HA.out.later hb).push (.cells #[.int .i64 v, .int .i64 i] 24))
  replace B0 := Lib.hid ((B0.out.later hb).push (.cells #[.int .i64 v, .int .i64 i] 24))
  replace U := Lib.hid ((U.out.later hb).push (.cells #[.int .i64 v, .int .i64 i] 24))
  have H5 := Lib.hid (hI.push (.cells #[.int .i64 v, .int .i64 i] 24))
  have D5 := Lib.hid (Blk.new w5 24 #[.int .i64 v, .int .i64 i])
  clear hI hb s0 s1 kA
  have s0 := B0.out.at 0 _ rfl
  have s1 := B0.out.at 1 _ rfl
  go_wp2_with fail
  refine (kM.out _ HA.out).mono ?_
  rintro e w6 ⟨A6, c6, rfl, hI, hb⟩
  replace HA := Lib.hid ((HA.out.later hb).push (.cells #[.int .i64 v, .int .i64 i] 24))
  replace B0 := Lib.hid ((B0.out.later hb).push (.cells #[.int .i64 v, .int .i64 i] 24))
  replace U := Lib.hid ((U.out.later hb).push (.cells #[.int .i64 v, .int .i64 i] 24))
  replace H5 := Lib.hid ((H5.out.later hb).push (.cells #[.int .i64 v, .int .i64 i] 24))
  replace D5 := Lib.hid ((D5.out.later hb).push (.cells #[.int .i64 v, .int .i64 i] 24))
  have H6 := Lib.hid (hI.push (.cells #[.int .i64 v, .int .i64 i] 24))
  have D6 := Lib.hid (Blk.new w6 24 #[.int .i64 v, .int .i64 i])
  clear hI hb s0 s1 kM
  have hv1 := run_convert_ints H5.out 22 9 5 Tryz.underlying22 Tryz.underlying5 Tryz.underlying9 _ c5 rfl
  have hv2 := run_convert_ints HA.out 22 9 5 Tryz.underlying22 Tryz.underlying5 Tryz.underlying9 _ c rfl
  have p0 := D5.out.at 0 _ rfl
  have p1 := D5.out.at 1 _ rfl
  have q0 := D6.out.at 0 _ rfl
  have q1 := D6.out.at 1 _ rfl
  have s0 := B0.out.at 0 _ rfl
  have s1 := B0.out.at 1 _ rfl
  go_upto_region 11 with fail
  clear p0 p1 q0 q1 s0 s1 hv1 hv2 H5 D5 D6 B0
  go_wp2_with fail
  obtain ⟨WB, hWB⟩ : ∃ W, W = w6.alloc (Obj.cells #[.int .i64 v, .int .i64 i] 24) := ⟨_, rfl⟩
  rw [← hWB] at HA H6 U ⊢
  clear hWB
  go_loopg [21] bs.length (fun gk s21 wr => ∃ k : Nat, gk + k = bs.length ∧ s21 = .int .i64 k ∧ Hid (Below WB.heap.size WB wr))
  case atStart => exact ⟨0, rfl, rfl, Lib.hid (Below.refl _ _)⟩
  case round =>
    obtain ⟨k, hgk, rfl, HB⟩ := hrel
    have hi0 : (0 : Int) ≤ (k : Int) := by omega
    by_cases hk : k < bs.length
    rotate_left
    · obtain rfl : k = bs.length := by omega
      have hi1 : (bs.length : Int) ≤ (bs.length : Int) := Int.le_refl _
      go_wp2_with fail
      refine (lives_any _).mono ?_
      rintro e wv ⟨rfl, hbv⟩
      have UF := Bel.later (Bel.later U.out HB.out) hbv
      go_wp2_with fail
      go_ret
      exact ⟨rfl, UF⟩
    have hi1 : (k : Int) < (bs.length : Int) := by omega
    obtain ⟨z, hz⟩ : ∃ z, bs[k]? = some z := ⟨_, List.getElem?_eq_getElem hk⟩
    have hmz := HMU.out k z hz
    obtain ⟨z0, z1⟩ := HZ.out z (List.mem_of_getElem? hz)
    obtain ⟨hm1', hm2'⟩ := Sb.muB_t z z0 z1
    obtain ⟨bb, ob, rfl, hbl, hbc⟩ := HA.out (by omega)
    obtain ⟨bm, om, rfl, hml, hmc⟩ := H6.out (by omega)
    have xz : wr.cell? ⟨bb, ob + k, none⟩ = some (.int .u8 z) := by
      have h := (HB.out.cell (p := ⟨bb, ob + k, none⟩) hbl).trans (hbc k hk)
      rwa [List.getD_eq_getElem?_getD, hz] at h
    have xm : wr.cell? ⟨bm, om + k, none⟩ = some (.int .u8 (Sb.muB z)) := by
      have h := (HB.out.cell (p := ⟨bm, om + k, none⟩) hml).trans (hmc k (by omega))
      rwa [List.getD_eq_getElem?_getD, hmz] at h
    generalize Sb.muB z = y at *
    clear hbc hmc hz hmz
    rcases hm1' with e1 | ⟨e1, e2⟩
    · subst e1
      have h127 : ¬y = 127 := hm2'
      have hd127 : decide (y = 127) = false := decide_eq_false h127
      go_upto_region 14 with fail
      go_quiet (fail)
      go_wp2_with fail
      go_roundg (gk - 1)
      case measure => omega
      case rel => exact ⟨k + 1, by omega, by go_num, Lib.hid ⟨HB.out.os, HB.out.tape, HB.out.output, HB.out.size, HB.out.block⟩⟩
    · subst e1 e2
      go_upto_region 14 with fail
      go_quiet (fail)
      go_wp2_with fail
      go_roundg (gk - 1)
      case measure => omega
      case rel => exact ⟨k + 1, by omega, by go_num, Lib.hid ⟨HB.out.os, HB.out.tape, HB.out.output, HB.out.size, HB.out.block⟩⟩
end Go.Proofs.YtahbecinkciahaaGreat

/- Layer 28: Pack of the program. -/
import Derived.Test.YtcnijhcoifodpaaDelCode
import Derived.Test.YtcnijhcoifodpaaDelPackPlain
import Derived.StillTailTactics
namespace Go.Proofs.Ytcnijhcoifodpaa
open Go.RowKit
set_option linter.unusedVariables false
attribute [local go_sem ↓] run_min_plain run_max_plain
attribute [local go_sem] setCell_drewN alloc_drewN
theorem info_u8 : (Try.prog.info? 5).map (fun i => (i.zero, i.size, i.bytes)) = some (some (.int .u8 0), 1, 1) := by kernel_rfl
theorem info_i16 : (Try.prog.info? 24).map (fun i => (i.zero, i.size, i.bytes)) = some (some (.int .i16 0), 1, 2) := by kernel_rfl
theorem blockSize_any (n : Nat) (w : World) (h : n ≤ 8000) : Calls Try.prog 29 #[.int .i64 n] w fun e w' => e = .returned (.int .i64 ((4 + (n + 1) / 2 : Nat) : Int)) ∧ w = w' := by
  go_enter Try.func29, Try.ntmps29
  go_wp2
  go_ret
  exact ⟨ret_int' (by omega), rfl⟩
theorem StepsAt.far {w : World} {b : Nat} (h : StepsAt w b) {p : Addr} (hp : b ≠ p.block) (u : Value) : StepsAt (w.setCell p u) b :=
  ⟨by simpa [World.setCell] using h.1, fun n hn => (World.cell?_setCell_other w p ⟨b, n, none⟩ u (fun e => hp (by rw [e]))).trans (h.2 n hn)⟩
theorem pack_round {w wo : World} {B gt N k : Nat} {t t5 : TypeId} {s : Int × Int} {zs : List Int} {V I c : Int} (hg : B + 1 + 1 + 1 + 1 ≤ gt) (h0 : Blk w B t #[.int .i64 V, .int .i64 I]) (h1 : Blk w (B + 1) t #[.int .i64 0, .int .i64 0])
    (hr : w.rowIs (B + 1 + 1 + 1) t5 N (fun j => .int .u8 (Dlt.packAt s zs k j))) (hs : StepsAt w gt) (hb : Below B wo w) (X : Int) (hX : X = Dlt.part s zs (k + 1) (k / 2)) (hst : Dlt.stAt s zs (k + 1) = (Dlt.nextV V I c, Dlt.nextI I c)) :
    Blk (((w.setCell ⟨B, 0, none⟩ (.int .i64 (Dlt.nextV V I c))).setCell ⟨B, 1, none⟩ (.int .i64 (Dlt.nextI I c))).setCell ⟨B + 1 + 1 + 1, 4 + k / 2, none⟩ (.int .u8 X)) B t #[.int .i64 (Dlt.stAt s zs (k + 1)).1, .int .i64 (Dlt.stAt s zs (k + 1)).2] ∧
    Blk (((w.setCell ⟨B, 0, none⟩ (.int .i64 (Dlt.nextV V I c))).setCell ⟨B, 1, none⟩ (.int .i64 (Dlt.nextI I c))).setCell ⟨B + 1 + 1 + 1, 4 + k / 2, none⟩ (.int .u8 X)) (B + 1) t #[.int .i64 0, .int .i64 0] ∧
    (((w.setCell ⟨B, 0, none⟩ (.int .i64 (Dlt.nextV V I c))).setCell ⟨B, 1, none⟩ (.int .i64 (Dlt.nextI I c))).setCell ⟨B + 1 + 1 + 1, 4 + k / 2, none⟩ (.int .u8 X)).rowIs (B + 1 + 1 + 1) t5 N (fun j => .int .u8 (Dlt.packAt s zs (k + 1) j)) ∧
    StepsAt (((w.setCell ⟨B, 0, none⟩ (.int .i64 (Dlt.nextV V I c))).setCell ⟨B, 1, none⟩ (.int .i64 (Dlt.nextI I c))).setCell ⟨B + 1 + 1 + 1, 4 + k / 2, none⟩ (.int .u8 X)) gt ∧
    Below B wo (((w.setCell ⟨B, 0, none⟩ (.int .i64 (Dlt.nextV V I c))).setCell ⟨B, 1, none⟩ (.int .i64 (Dlt.nextI I c))).setCell ⟨B + 1 + 1 + 1, 4 + k / 2, none⟩ (.int .u8 X)) := by
  refine ⟨?_, ?_, ?_, ?_, ?_⟩
  · rw [hst]
    exact ((h0.set_ 0 _).set_ 1 _).far (by simp; omega) _
  · exact ((h1.far (by simp) _).far (by simp) _).far (by simp) _
  · refine (((hr.setOther (by simp; omega) _).setOther (by simp; omega) _).set (4 + k / 2) _).congr fun j _ => ?_
    rw [Dlt.packAt_set, hX]
    split <;> rfl
  · exact ((hs.far (by simp; omega) _).far (by simp; omega) _).far (by simp; omega) _
  · exact ((hb.setCell (by simp) _).setCell (by simp) _).setCell (by simp; omega) _
set_option maxHeartbeats 1600000 in
theorem Pack_ok (v i : Int) (A : Option Addr) (zs : List Int) (cap : Nat) (w : World) (hv : Dlt.valid v i = true) (hA : IntsAt w w.heap.size .i16 A zs) (hz : Within (-32768) 32767 zs) (h8 : zs.length ≤ 8000) (h0 : 0 < zs.length) :
    Calls Try.prog 19 #[.agg #[.int .i64 v, .int .i64 i], .slice A zs.length cap] w fun e w' => ∃ (A' : Option Addr) (c' : Nat), e = .returned (.tuple #[.slice A' (4 + (zs.length + 1) / 2) c', .agg #[.int .i64 (Dlt.stAt (v, i) zs zs.length).1, .int .i64 (Dlt.stAt (v, i) zs zs.length).2], .int .u8 0]) ∧
      4 + (zs.length + 1) / 2 ≤ c' ∧ IntsAt w' w'.heap.size .u8 A' (Dlt.packB (v, i) zs) ∧ Below w.heap.size w w' := by
  have hz89 := zero89
  have HI2 := Lib.hid szA_info
  obtain ⟨N, hN⟩ : ∃ N, N = 4 + (zs.length + 1) / 2 := ⟨_, rfl⟩
  have hN1 : 5 ≤ N := by omega
  have hN2 : N ≤ 4004 := by omega
  have HN := Lib.hid hN
  clear hN
  obtain ⟨W0, hW0⟩ : ∃ W0, W0 = ((w.alloc (.cells #[.int .i64 v, .int .i64 i] 23)).alloc (.cells #[.int .i64 0, .int .i64 0] 23)).alloc (.cells #[.int .i64 v, .int .i64 i] 23) := ⟨_, rfl⟩
  obtain ⟨W1, hW1⟩ : ∃ W1, W1 = W0.alloc (.cells (madeCells #[.int .u8 0] N) 5) := ⟨_, rfl⟩
  have hs0 : W0.heap.size = w.heap.size + 1 + 1 + 1 := by rw [hW0]; simp
  have hs1 : W1.heap.size = w.heap.size + 1 + 1 + 1 + 1 := by rw [hW1]; simp [hs0]
  have B0 : Blk W1 w.heap.size 23 #[.int .i64 v, .int .i64 i] := by rw [hW1, hW0]; exact ((((Blk.new w _ _).alloc _).alloc _).alloc _)
  have B1 : Blk W1 (w.heap.size + 1) 23 #[.int .i64 0, .int .i64 0] := by
    have h := Blk.new (w.alloc (.cells #[.int .i64 v, .int .i64 i] 23)) 23 #[.int .i64 0, .int .i64 0]
    rw [show (w.alloc (.cells #[.int .i64 v, .int .i64 i] 23)).heap.size = w.heap.size + 1 by simp] at h
    rw [hW1, hW0]; exact ((h.alloc _).alloc _)
  have R : W1.rowIs (w.heap.size + 1 + 1 + 1) 5 N (fun _ => .int .u8 0) := by rw [hW1, ← hs0]; exact World.rowIs_made W0 _ _ _
  have hbw : Below w.heap.size w W1 := by
    rw [hW1, hW0]; exact ((((Below.refl _ w).alloc (Nat.le_refl _) _).alloc (by simp) _).alloc (by simp; omega) _).alloc (by simp; omega) _
  have hmk := run_make_row' (P := Try.prog) 37 5 (.int .u8 0) 1 Try.underlying37 info_u8 rfl .i64 .i64 N (by omega) (by omega) W0
  rw [← hW1, hs0, hW0] at hmk
  have c0 := B0.at 0 _ rfl
  have c1 := B0.at 1 _ rfl
  have r0 := R.cell (i := 0) (by omega)
  have r1 := R.cell (i := 1) (by omega)
  have r2 := R.cell (i := 2) (by omega)
  have q0 := R.frozen 0
  have q1 := R.frozen 1
  have q2 := R.frozen 2
  have HB0 := Lib.hid B0
  have HB1 := Lib.hid B1
  have HR := Lib.hid R
  have HBW := Lib.hid hbw
  have HS1 := Lib.hid hs1
  clear hW1 hs0 hW0 hs1 B0 B1 R hbw
  have hi0 : (0 : Int) < (N : Int) := by omega
  have hi1 : (1 : Int) < (N : Int) := by omega
  have hi2 : (2 : Int) < (N : Int) := by omega
  go_enter Try.func19, Try.ntmps19
  go_wp2_with fail
  refine (Valid_any v i _).mono ?_
  rintro e w' ⟨rfl, rfl⟩
  rw [hv]
  go_wp2_with fail
  refine (blockSize_any _ _ h8).mono ?_
  rintro e w' ⟨rfl, rfl⟩
  rw [← HN.out]
  go_wp2_with fail
  clear hmk
  go_region
  go_wp2_with fail
  refine (sizes_any _).mono ?_
  rintro e w3 ⟨rfl, hb3⟩
  have e1 : W1.heap.size = w.heap.size + 1 + 1 + 1 + 1 := HS1.out
  have hrow : (((W1.setCell ⟨w.heap.size + 1 + 1 + 1, 0, none⟩ (.int .u8 (IntKind.u16.wrap v / 256 % 256))).setCell ⟨w.heap.size + 1 + 1 + 1, 1, none⟩ (.int .u8 (IntKind.u16.wrap v % 256))).setCell ⟨w.heap.size + 1 + 1 + 1, 2, none⟩ (.int .u8 (i % 256))).drew.rowIs (w.heap.size + 1 + 1 + 1) 5 N (fun j => .int .u8 (Dlt.packAt (v, i) zs 0 j)) :=
    (((HR.out.set 0 _).set 1 _).set 2 _).congr fun j hj => by
      obtain ⟨g1, g2, g3, g4⟩ := valid_true hv
      unfold Dlt.packAt Dlt.part
      rw [IntKind.wrap_u16]
      by_cases h2 : j = 2
      · subst h2; simp; omega
      · by_cases h1 : j = 1
        · subst h1; simp
        · by_cases h0 : j = 0
          · subst h0; simp; omega
          · simp [h0, h1, h2]
  have b0 : Blk (((W1.setCell ⟨w.heap.size + 1 + 1 + 1, 0, none⟩ (.int .u8 (IntKind.u16.wrap v / 256 % 256))).setCell ⟨w.heap.size + 1 + 1 + 1, 1, none⟩ (.int .u8 (IntKind.u16.wrap v % 256))).setCell ⟨w.heap.size + 1 + 1 + 1, 2, none⟩ (.int .u8 (i % 256))).drew w.heap.size 23 #[.int .i64 v, .int .i64 i] :=
    (((HB0.out.far (by simp; omega) _).far (by simp; omega) _).far (by simp; omega) _).drew
  have b1 : Blk (((W1.setCell ⟨w.heap.size + 1 + 1 + 1, 0, none⟩ (.int .u8 (IntKind.u16.wrap v / 256 % 256))).setCell ⟨w.heap.size + 1 + 1 + 1, 1, none⟩ (.int .u8 (IntKind.u16.wrap v % 256))).setCell ⟨w.heap.size + 1 + 1 + 1, 2, none⟩ (.int .u8 (i % 256))).drew (w.heap.size + 1) 23 #[.int .i64 0, .int .i64 0] :=
    (((HB1.out.far (by simp) _).far (by simp) _).far (by simp) _).drew
  have hbw2 : Below w.heap.size w (((W1.setCell ⟨w.heap.size + 1 + 1 + 1, 0, none⟩ (.int .u8 (IntKind.u16.wrap v / 256 % 256))).setCell ⟨w.heap.size + 1 + 1 + 1, 1, none⟩ (.int .u8 (IntKind.u16.wrap v % 256))).setCell ⟨w.heap.size + 1 + 1 + 1, 2, none⟩ (.int .u8 (i % 256))).drew :=
    (((HBW.out.setCell (by simp; omega) _).setCell (by simp; omega) _).setCell (by simp; omega) _).drew
  have hs3 : w.heap.size + 1 + 1 + 1 + 1 ≤ w3.heap.size := by have := hb3.size; simpa [e1, World.setCell] using this
  have HB0' := Lib.hid ((b0.later hb3).later (laid_below w3))
  have HB1' := Lib.hid ((b1.later hb3).later (laid_below w3))
  have HR' := Lib.hid (rowIs_below (rowIs_below hrow hb3 hrow.lt) (laid_below w3) (rowIs_below hrow hb3 hrow.lt).lt)
  have HBW' := Lib.hid ((hbw2.trans (hb3.mono hbw2.size)).trans ((laid_below w3).mono (by omega)))
  have HST := Lib.hid (laid_steps w3)
  have HT := Lib.hid (laid_there w3)
  clear hrow b0 b1 hbw2 hb3 HB0 HB1 HR HBW HS1 c0 c1 r0 r1 r2 q0 q1 q2 e1
  go_wp2_with (first
    | (refine wpList_store_mid rfl 46 (.tmp 10) (.tmp 48) (by rfl) w3.heap.size 0 Dlt.szA (by rfl) (by rfl) HT.out HI2.out szA_one ?_; change wpList _ _ _ _ _ (laidW w3); generalize laidW w3 = W4 at *; generalize w3.heap.size = gt at *; clear hz89 HT HI2)
    | fail)
  go_loopw [51] (fun q wr => ∃ k : Nat, k ≤ zs.length ∧ q = .int .i64 k ∧ Blk wr w.heap.size 23 #[.int .i64 (Dlt.stAt (v, i) zs k).1, .int .i64 (Dlt.stAt (v, i) zs k).2] ∧
      Blk wr (w.heap.size + 1) 23 #[.int .i64 0, .int .i64 0] ∧ wr.rowIs (w.heap.size + 1 + 1 + 1) 5 N (fun j => .int .u8 (Dlt.packAt (v, i) zs k j)) ∧ StepsAt wr gt ∧ Below w.heap.size w wr)
    (fun q _ => zs.length - (intOf q).toNat)
  case atStart => exact ⟨0, Nat.zero_le _, rfl, HB0'.out, HB1'.out, HR'.out, HST.out, HBW'.out⟩
  case round =>
    obtain ⟨k, hk, rfl, B0, B1, R, hst, hb⟩ := hrel
    clear HB0' HB1' HR' HST HBW'
    have HSV := Lib.hid (Dlt.stAt_valid (v, i) hv zs k)
    by_cases hlt : k < zs.length
    · obtain ⟨b, off, rfl, hbB, hcell⟩ := hA (by omega)
      have hzk := hz.at hlt
      have hck : wr.cell? ⟨b, off + k, none⟩ = some (.int .i16 (zs.getD k 0)) := (hb.cell (p := ⟨b, off + k, none⟩) hbB).trans (hcell k hlt)
      have HS := Lib.hid (Dlt.stAt_succ (v, i) zs k hlt)
      have hcd : Dlt.code (Dlt.stAt (v, i) zs k).1 (Dlt.stAt (v, i) zs k).2 (zs.getD k 0) = Dlt.codeAt (v, i) zs k := rfl
      obtain ⟨k0, k1⟩ := Dlt.codeAt_bd (v, i) zs k
      generalize hcc : Dlt.codeAt (v, i) zs k = c at *
      have HCC := Lib.hid hcc
      generalize zs.getD k 0 = z at hck hzk hcd
      have HC := Lib.hid hcd
      obtain ⟨z0, z1⟩ := hzk
      clear hcell hcd hcc
      generalize hV : (Dlt.stAt (v, i) zs k).1 = V at *
      generalize hI : (Dlt.stAt (v, i) zs k).2 = I at *
      have HV := Lib.hid hV
      have HI := Lib.hid hI
      have c0 := B0.at 0 _ rfl
      have c1 := B0.at 1 _ rfl
      have HB0 := Lib.hid B0
      have HB1 := Lib.hid B1
      have HR := Lib.hid R
      have HST := Lib.hid hst
      have HB := Lib.hid hb
      have hn0 : (0 : Int) ≤ (k : Int) := by omega
      have hn1 : (k : Int) < (zs.length : Int) := by omega
      clear B0 B1 R hst hb hV hI
      go_wp2
      go_still_tail 6, (by kernel_rfl)
      change wpList _ _ _ _ _ wr.drew
      go_wp2_with fail
      refine (encode_any gt V I z wr.drew HST.out HSV.out z0 z1).mono ?_
      rintro e w5 ⟨rfl, hb5⟩
      rw [HC.out]
      have HB05 := Lib.hid (HB0.out.drew.later hb5)
      have HB15 := Lib.hid (HB1.out.drew.later hb5)
      have HR5 := Lib.hid (rowIs_below HR.out.drew hb5 HR.out.lt)
      have HST5 := Lib.hid (StepsAt.below (w := wr.drew) HST.out hb5)
      have HBW5 := Lib.hid (HB.out.drew.trans (hb5.mono HB.out.size))
      clear hb5 HB0 HB1 HR HST HB c0 c1 hck
      have c0 := HB05.out.at 0 _ rfl
      have c1 := HB05.out.at 1 _ rfl
      go_wp2_with fail
      refine (decode_any gt V I c _ HST5.out HSV.out k0 k1).mono ?_
      rintro e w6 ⟨rfl, hb6⟩
      have HB06 := Lib.hid (HB05.out.later hb6)
      have HB16 := Lib.hid (HB15.out.later hb6)
      have HR6 := Lib.hid (rowIs_below HR5.out hb6 HR5.out.lt)
      have HST6 := Lib.hid (HST5.out.below hb6)
      have HBW6 := Lib.hid (HBW5.out.trans (hb6.mono HBW5.out.size))
      clear hb6 HB05 HB15 HR5 HST5 HBW5 c0 c1
      have c0 := HB06.out.at 0 _ rfl
      have c1 := HB06.out.at 1 _ rfl
      have f0 := HB06.out.frozen 0
      have f1 := HB06.out.frozen 1
      have hM : k / 2 + 4 < N := by rw [HN.out]; omega
      have hM1 : (k : Int) / 2 < ((N - 4 : Nat) : Int) := by omega
      have hM0 : (0 : Int) ≤ (k : Int) / 2 := by omega
      have hrc : w6.cell? ⟨w.heap.size + 1 + 1 + 1, 4 + k / 2, none⟩ = some (.int .u8 (Dlt.part (v, i) zs k (k / 2))) := by rw [HR6.out.cell (by omega), Dlt.packAt_body]
      have hrf := HR6.out.frozen (4 + k / 2)
      have hd1 : w.heap.size ≠ w.heap.size + 1 + 1 + 1 := by omega
      have hd2 : w.heap.size + 1 + 1 + 1 ≠ w.heap.size := by omega
      by_cases hpar : k % 2 = 0
      · have hpe := Dlt.part_even (v, i) zs k hpar
        rw [hpe.1] at hrc
        have HPE := Lib.hid hpe.2
        have hpar' : (k : Int) % 2 = 0 := by omega
        clear hpe hpar
        go_wp2
        go_roundw
        case rel =>
          have h := pack_round hs3 HB06.out HB16.out HR6.out HST6.out HBW6.out (c * 16) (by rw [HPE.out, HCC.out]; omega) HS.out
          exact ⟨k + 1, by omega, by go_num, h⟩
        case measure => simp [intOf]; omega
      · have hpo := Dlt.part_odd (v, i) zs k (by omega)
        obtain ⟨p0, p1⟩ := Dlt.codeAt_bd (v, i) zs (k - 1)
        rw [hpo.1] at hrc
        have HPE := Lib.hid hpo.2
        generalize Dlt.codeAt (v, i) zs (k - 1) = cp at *
        have hpar' : (k : Int) % 2 = 1 := by omega
        clear hpo hpar
        go_wp2
        go_roundw
        case rel =>
          have h := pack_round hs3 HB06.out HB16.out HR6.out HST6.out HBW6.out (16 * cp + c) (by rw [HPE.out, HCC.out]) HS.out
          exact ⟨k + 1, by omega, by go_num, h⟩
        case measure => simp [intOf]; omega
    · obtain rfl : k = zs.length := by omega
      clear hA hz
      have HB0 := Lib.hid B0
      have HB1 := Lib.hid B1
      have HR := Lib.hid R
      have HB := Lib.hid hb
      generalize hV : (Dlt.stAt (v, i) zs zs.length).1 = V at *
      generalize hI : (Dlt.stAt (v, i) zs zs.length).2 = I at *
      have HV := Lib.hid hV
      have HI := Lib.hid hI
      have c0 := B0.at 0 _ rfl
      have c1 := B0.at 1 _ rfl
      have d0 := B1.at 0 _ rfl
      have d1 := B1.at 1 _ rfl
      have f0 := B1.frozen 0
      have f1 := B1.frozen 1
      clear B0 B1 R hst hb hV hI
      go_wp2
      go_region
      go_wp2
      refine bodyPost_ret (v := .tuple #[.slice (some ⟨w.heap.size + 1 + 1 + 1, 0, none⟩) N N, .agg #[.int .i64 V, .int .i64 I], .int .u8 0]) (by simp [results, Try.results19, go_sem, d0, d1]) rfl ?_
      have hbd := Dlt.packAt_bd (v, i) hv zs zs.length
      refine ⟨some ⟨w.heap.size + 1 + 1 + 1, 0, none⟩, N, by rw [HV.out, HI.out, HN.out], by rw [HN.out]; omega, ?_, ?_⟩
      · refine IntsAt.of_row (((HR.out.setOther (by simp; omega) _).setOther (by simp; omega) _).drew) (by rw [Dlt.packB_len, HN.out]; omega) fun j hj => ?_
        rw [Dlt.packB_len] at hj
        rw [Dlt.packB_at _ _ _ hj]
      · exact ((HB.out.setCell (by simp) _).setCell (by simp) _).drew
set_option maxHeartbeats 400000 in
theorem Pack_bad (v i : Int) (A : Option Addr) (n cap : Nat) (w : World) (hv : Dlt.valid v i = false) :
    Calls Try.prog 19 #[.agg #[.int .i64 v, .int .i64 i], .slice A n cap] w fun e w' => e = .returned (.tuple #[.slice none 0 0, .agg #[.int .i64 0, .int .i64 0], .int .u8 2]) ∧ Below w.heap.size w w' := by
  go_enter Try.func19, Try.ntmps19
  go_wp2_with fail
  refine (Valid_any v i _).mono ?_
  rintro e w' ⟨rfl, rfl⟩
  rw [hv]
  clear hv
  go_wp2_with fail
  refine bodyPost_ret (v := .tuple #[.slice none 0 0, .agg #[.int .i64 0, .int .i64 0], .int .u8 2]) (by simp [results, Try.results19, go_sem]) rfl ⟨rfl, ?_⟩
  repeat (first | exact Below.refl _ _ | refine Below.setCell ?_ (by simp) _ | refine Below.alloc ?_ (by simp; try omega) _)
set_option maxHeartbeats 400000 in
theorem Pack_long (v i : Int) (A : Option Addr) (n cap : Nat) (w : World) (hv : Dlt.valid v i = true) (h8 : 8000 < n) :
    Calls Try.prog 19 #[.agg #[.int .i64 v, .int .i64 i], .slice A n cap] w fun e w' => e = .returned (.tuple #[.slice none 0 0, .agg #[.int .i64 0, .int .i64 0], .int .u8 4]) ∧ Below w.heap.size w w' := by
  go_enter Try.func19, Try.ntmps19
  go_wp2_with fail
  refine (Valid_any v i _).mono ?_
  rintro e w' ⟨rfl, rfl⟩
  rw [hv]
  clear hv
  go_wp2_with fail
  refine bodyPost_ret (v := .tuple #[.slice none 0 0, .agg #[.int .i64 0, .int .i64 0], .int .u8 4]) (by simp [results, Try.results19, go_sem]) rfl ⟨rfl, ?_⟩
  repeat (first | exact Below.refl _ _ | refine Below.setCell ?_ (by simp) _ | refine Below.alloc ?_ (by simp; try omega) _)
set_option maxHeartbeats 1600000 in
theorem Pack_zero (v i : Int) (A : Option Addr) (cap : Nat) (w : World) (hv : Dlt.valid v i = true) :
    Calls Try.prog 19 #[.agg #[.int .i64 v, .int .i64 i], .slice A 0 cap] w fun e w' => ∃ (A' : Option Addr) (c' : Nat), e = .returned (.tuple #[.slice A' 4 c', .agg #[.int .i64 v, .int .i64 i], .int .u8 0]) ∧
      4 ≤ c' ∧ IntsAt w' w'.heap.size .u8 A' (Dlt.packB (v, i) []) ∧ Below w.heap.size w w' := by
  have hz89 := zero89
  have HI2 := Lib.hid szA_info
  obtain ⟨W0, hW0⟩ : ∃ W0, W0 = ((w.alloc (.cells #[.int .i64 v, .int .i64 i] 23)).alloc (.cells #[.int .i64 0, .int .i64 0] 23)).alloc (.cells #[.int .i64 v, .int .i64 i] 23) := ⟨_, rfl⟩
  obtain ⟨W1, hW1⟩ : ∃ W1, W1 = W0.alloc (.cells (madeCells #[.int .u8 0] 4) 5) := ⟨_, rfl⟩
  have hs0 : W0.heap.size = w.heap.size + 1 + 1 + 1 := by rw [hW0]; simp
  have hs1 : W1.heap.size = w.heap.size + 1 + 1 + 1 + 1 := by rw [hW1]; simp [hs0]
  have B0 : Blk W1 w.heap.size 23 #[.int .i64 v, .int .i64 i] := by rw [hW1, hW0]; exact ((((Blk.new w _ _).alloc _).alloc _).alloc _)
  have B1 : Blk W1 (w.heap.size + 1) 23 #[.int .i64 0, .int .i64 0] := by
    have h := Blk.new (w.alloc (.cells #[.int .i64 v, .int .i64 i] 23)) 23 #[.int .i64 0, .int .i64 0]
    rw [show (w.alloc (.cells #[.int .i64 v, .int .i64 i] 23)).heap.size = w.heap.size + 1 by simp] at h
    rw [hW1, hW0]; exact ((h.alloc _).alloc _)
  have R : W1.rowIs (w.heap.size + 1 + 1 + 1) 5 4 (fun _ => .int .u8 0) := by rw [hW1, ← hs0]; exact World.rowIs_made W0 _ _ _
  have hbw : Below w.heap.size w W1 := by
    rw [hW1, hW0]; exact ((((Below.refl _ w).alloc (Nat.le_refl _) _).alloc (by simp) _).alloc (by simp; omega) _).alloc (by simp; omega) _
  have hmk := run_make_row' (P := Try.prog) 37 5 (.int .u8 0) 1 Try.underlying37 info_u8 rfl .i64 .i64 4 (by omega) (by omega) W0
  rw [← hW1, hs0, hW0] at hmk
  change (Instr.makeSlice 37 (.int .i64 4) (.int .i64 4)).run Try.prog _ = _ at hmk
  have c0 := B0.at 0 _ rfl
  have c1 := B0.at 1 _ rfl
  have r0 := R.cell (i := 0) (by omega)
  have r1 := R.cell (i := 1) (by omega)
  have r2 := R.cell (i := 2) (by omega)
  have q0 := R.frozen 0
  have q1 := R.frozen 1
  have q2 := R.frozen 2
  have HB0 := Lib.hid B0
  have HB1 := Lib.hid B1
  have HR := Lib.hid R
  have HBW := Lib.hid hbw
  have HS1 := Lib.hid hs1
  clear hW1 hs0 hW0 hs1 B0 B1 R hbw
  go_enter Try.func19, Try.ntmps19
  go_wp2_with fail
  refine (Valid_any v i _).mono ?_
  rintro e w' ⟨rfl, rfl⟩
  rw [hv]
  go_wp2_with fail
  refine (blockSize_any 0 _ (by omega)).mono ?_
  rintro e w' ⟨rfl, rfl⟩
  go_wp2_with fail
  clear hmk
  go_region
  go_wp2_with fail
  refine (sizes_any _).mono ?_
  rintro e w3 ⟨rfl, hb3⟩
  have e1 : W1.heap.size = w.heap.size + 1 + 1 + 1 + 1 := HS1.out
  have hrow : (((W1.setCell ⟨w.heap.size + 1 + 1 + 1, 0, none⟩ (.int .u8 (IntKind.u16.wrap v / 256 % 256))).setCell ⟨w.heap.size + 1 + 1 + 1, 1, none⟩ (.int .u8 (IntKind.u16.wrap v % 256))).setCell ⟨w.heap.size + 1 + 1 + 1, 2, none⟩ (.int .u8 (i % 256))).drew.rowIs (w.heap.size + 1 + 1 + 1) 5 4 (fun j => .int .u8 (Dlt.packAt (v, i) [] 0 j)) :=
    (((HR.out.set 0 _).set 1 _).set 2 _).congr fun j hj => by
      obtain ⟨g1, g2, g3, g4⟩ := valid_true hv
      unfold Dlt.packAt Dlt.part
      rw [IntKind.wrap_u16]
      by_cases h2 : j = 2
      · subst h2; simp; omega
      · by_cases h1 : j = 1
        · subst h1; simp
        · by_cases h0 : j = 0
          · subst h0; simp; omega
          · simp [h0, h1, h2]
  have b0 : Blk (((W1.setCell ⟨w.heap.size + 1 + 1 + 1, 0, none⟩ (.int .u8 (IntKind.u16.wrap v / 256 % 256))).setCell ⟨w.heap.size + 1 + 1 + 1, 1, none⟩ (.int .u8 (IntKind.u16.wrap v % 256))).setCell ⟨w.heap.size + 1 + 1 + 1, 2, none⟩ (.int .u8 (i % 256))).drew w.heap.size 23 #[.int .i64 v, .int .i64 i] :=
    (((HB0.out.far (by simp; omega) _).far (by simp; omega) _).far (by simp; omega) _).drew
  have b1 : Blk (((W1.setCell ⟨w.heap.size + 1 + 1 + 1, 0, none⟩ (.int .u8 (IntKind.u16.wrap v / 256 % 256))).setCell ⟨w.heap.size + 1 + 1 + 1, 1, none⟩ (.int .u8 (IntKind.u16.wrap v % 256))).setCell ⟨w.heap.size + 1 + 1 + 1, 2, none⟩ (.int .u8 (i % 256))).drew (w.heap.size + 1) 23 #[.int .i64 0, .int .i64 0] :=
    (((HB1.out.far (by simp) _).far (by simp) _).far (by simp) _).drew
  have hbw2 : Below w.heap.size w (((W1.setCell ⟨w.heap.size + 1 + 1 + 1, 0, none⟩ (.int .u8 (IntKind.u16.wrap v / 256 % 256))).setCell ⟨w.heap.size + 1 + 1 + 1, 1, none⟩ (.int .u8 (IntKind.u16.wrap v % 256))).setCell ⟨w.heap.size + 1 + 1 + 1, 2, none⟩ (.int .u8 (i % 256))).drew :=
    (((HBW.out.setCell (by simp; omega) _).setCell (by simp; omega) _).setCell (by simp; omega) _).drew
  have hs3 : w.heap.size + 1 + 1 + 1 + 1 ≤ w3.heap.size := by have := hb3.size; simpa [e1, World.setCell] using this
  have HB0' := Lib.hid ((b0.later hb3).later (laid_below w3))
  have HB1' := Lib.hid ((b1.later hb3).later (laid_below w3))
  have HR' := Lib.hid (rowIs_below (rowIs_below hrow hb3 hrow.lt) (laid_below w3) (rowIs_below hrow hb3 hrow.lt).lt)
  have HBW' := Lib.hid ((hbw2.trans (hb3.mono hbw2.size)).trans ((laid_below w3).mono (by omega)))
  have HST := Lib.hid (laid_steps w3)
  have HT := Lib.hid (laid_there w3)
  clear hrow b0 b1 hbw2 hb3 HB0 HB1 HR HBW HS1 c0 c1 r0 r1 r2 q0 q1 q2 e1
  go_wp2_with (first
    | (refine wpList_store_mid rfl 46 (.tmp 10) (.tmp 48) (by rfl) w3.heap.size 0 Dlt.szA (by rfl) (by rfl) HT.out HI2.out szA_one ?_; change wpList _ _ _ _ _ (laidW w3); generalize laidW w3 = W4 at *; generalize w3.heap.size = gt at *; clear hz89 HT HI2)
    | fail)
  go_loopw [51] (fun q wr => q = .int .i64 0 ∧ Blk wr w.heap.size 23 #[.int .i64 v, .int .i64 i] ∧
      Blk wr (w.heap.size + 1) 23 #[.int .i64 0, .int .i64 0] ∧ wr.rowIs (w.heap.size + 1 + 1 + 1) 5 4 (fun j => .int .u8 (Dlt.packAt (v, i) [] 0 j)) ∧ Below w.heap.size w wr)
    (fun q _ => 0)
  case atStart => exact ⟨rfl, HB0'.out, HB1'.out, HR'.out, HBW'.out⟩
  case round =>
    obtain ⟨rfl, B0, B1, R, hb⟩ := hrel
    clear HB0' HB1' HR' HST HBW'
    have HB0 := Lib.hid B0
    have HB1 := Lib.hid B1
    have HR := Lib.hid R
    have HB := Lib.hid hb
    have c0 := B0.at 0 _ rfl
    have c1 := B0.at 1 _ rfl
    have d0 := B1.at 0 _ rfl
    have d1 := B1.at 1 _ rfl
    have f0 := B1.frozen 0
    have f1 := B1.frozen 1
    clear B0 B1 R hb
    go_wp2
    go_region
    go_wp2
    refine bodyPost_ret (v := .tuple #[.slice (some ⟨w.heap.size + 1 + 1 + 1, 0, none⟩) 4 4, .agg #[.int .i64 v, .int .i64 i], .int .u8 0]) (by simp [results, Try.results19, go_sem, d0, d1]) rfl ?_
    refine ⟨some ⟨w.heap.size + 1 + 1 + 1, 0, none⟩, 4, rfl, Nat.le_refl _, ?_, ?_⟩
    · refine IntsAt.of_row (((HR.out.setOther (by simp; omega) _).setOther (by simp; omega) _).drew) (by rw [Dlt.packB_len]; simp) fun j hj => ?_
      rw [Dlt.packB_len] at hj
      rw [Dlt.packB_at _ _ _ hj]
      rfl
    · exact ((HB.out.setCell (by simp) _).setCell (by simp) _).drew
end Go.Proofs.Ytcnijhcoifodpaa

/- Layer 28: Pack of the reference. -/
import Derived.Test.YtcnijhcoifodpaaDelPack
namespace Go.Proofs.Ytcnijhcoifodpaa
open Go.RowKit
set_option linter.unusedVariables false
attribute [local go_sem] setCell_drewN alloc_drewN
/-- the cells of the block behind k samples -/
def Dlt.rowK (s : Int × Int) (zs : List Int) (k : Nat) : List Value := (List.range (4 + (k + 1) / 2)).map fun j => Value.int .u8 (Dlt.packAt s zs k j)
theorem Dlt.rowK_len (s : Int × Int) (zs : List Int) (k : Nat) : (Dlt.rowK s zs k).length = 4 + (k + 1) / 2 := by simp [Dlt.rowK]
theorem Dlt.rowK_even (s : Int × Int) (zs : List Int) (k : Nat) (h : k % 2 = 0) : Dlt.rowK s zs (k + 1) = Dlt.rowK s zs k ++ [.int .u8 (16 * Dlt.codeAt s zs k)] := by
  unfold Dlt.rowK
  rw [show 4 + (k + 1 + 1) / 2 = (4 + (k + 1) / 2) + 1 by omega, List.range_succ, List.map_append]
  congr 1
  · refine List.map_congr_left fun j hj => ?_
    have hj' : j < 4 + (k + 1) / 2 := by simpa using hj
    rw [Dlt.packAt_set, if_neg (by omega)]
  · rw [List.map_singleton, Dlt.packAt_set, if_pos (by omega), (Dlt.part_even s zs k h).2]
theorem Dlt.rowK_odd (s : Int × Int) (zs : List Int) (k : Nat) (h : k % 2 = 1) : Dlt.rowK s zs (k + 1) = (Dlt.rowK s zs k).set (4 + k / 2) (.int .u8 (16 * Dlt.codeAt s zs (k - 1) + Dlt.codeAt s zs k)) := by
  unfold Dlt.rowK
  rw [show 4 + (k + 1 + 1) / 2 = 4 + (k + 1) / 2 by omega]
  refine List.ext_getElem (by simp) fun j h1 h2 => ?_
  have hj : j < 4 + (k + 1) / 2 := by simpa using h1
  rw [List.getElem_set]
  simp only [List.getElem_map, List.getElem_range]
  rw [Dlt.packAt_set]
  by_cases e : j = 4 + k / 2
  · rw [if_pos e, if_pos e.symm, (Dlt.part_odd s zs k h).2]
  · rw [if_neg e, if_neg (fun h => e h.symm)]
theorem Dlt.rowK_last (s : Int × Int) (zs : List Int) (k : Nat) (h : k % 2 = 1) : (Dlt.rowK s zs k)[4 + k / 2]? = some (.int .u8 (16 * Dlt.codeAt s zs (k - 1))) := by
  unfold Dlt.rowK
  rw [List.getElem?_map, List.getElem?_range (by omega)]
  show some (Value.int .u8 (Dlt.packAt s zs k (4 + k / 2))) = _
  rw [Dlt.packAt_body, (Dlt.part_odd s zs k h).1]
theorem Dlt.rowK_all (s : Int × Int) (zs : List Int) : Dlt.rowK s zs zs.length = (Dlt.packB s zs).map (Value.int .u8) := by
  unfold Dlt.rowK Dlt.packB
  rw [List.map_map]
  rfl
set_option maxHeartbeats 1600000 in
theorem rPack_ok (v i : Int) (A : Option Addr) (zs : List Int) (cap : Nat) (w : World) (hv : Dlt.valid v i = true) (hA : IntsAt w w.heap.size .i16 A zs) (hz : Within (-32768) 32767 zs) (h8 : zs.length ≤ 8000) :
    Calls Try.prog 20 #[.agg #[.int .i64 v, .int .i64 i], .slice A zs.length cap] w fun e w' => ∃ (A' : Option Addr) (c' : Nat), e = .returned (.tuple #[.slice A' (4 + (zs.length + 1) / 2) c', .agg #[.int .i64 (Dlt.stAt (v, i) zs zs.length).1, .int .i64 (Dlt.stAt (v, i) zs zs.length).2], .int .u8 0]) ∧
      IntsAt w' w'.heap.size .u8 A' (Dlt.packB (v, i) zs) ∧ Below w.heap.size w w' := by
  have hvv := valid_true hv
  obtain ⟨g1, g2, g3, g4⟩ := hvv
  go_enter Try.func20, Try.ntmps20
  go_wp2_with fail
  refine (rValid_any v i _).mono ?_
  rintro e w' ⟨rfl, rfl⟩
  rw [hv]
  go_wp2_with fail
  rw [show (v + 65536) % 65536 = v % 65536 by omega]
  generalize hq : v % 65536 = q
  go_loopw [8, 9] (fun u q wr => ∃ (k : Nat) (A' : Option Addr) (c' n : Nat) (xs : List Value), k ≤ zs.length ∧ q = .int .i64 k ∧ u = .slice A' n c' ∧ Hid (n = 4 + (k + 1) / 2) ∧ Hid (xs = Dlt.rowK (v, i) zs k) ∧ Owns wr (w.heap.size + 1 + 1) 5 1 A' n c' xs ∧
      Blk wr w.heap.size 23 #[.int .i64 (Dlt.stAt (v, i) zs k).1, .int .i64 (Dlt.stAt (v, i) zs k).2] ∧
      Blk wr (w.heap.size + 1) 23 #[.int .i64 0, .int .i64 0] ∧ Below w.heap.size w wr)
    (fun _ q _ => zs.length - (intOf q).toNat)
  case atStart =>
    subst hq
    refine ⟨0, _, _, _, _, Nat.zero_le _, rfl, rfl, rfl, rfl, ?_, ?_, ?_, ?_⟩
    · have hs : (((w.alloc (.cells #[.int .i64 v, .int .i64 i] 23)).alloc (.cells #[.int .i64 0, .int .i64 0] 23)).alloc (.cells #[.int .i64 v, .int .i64 i] 23)).heap.size = w.heap.size + 1 + 1 + 1 := by simp
      have h := World.ownsRow_lit (base := w.heap.size + 1 + 1) (e := 5) (size := 1) (((w.alloc (.cells #[.int .i64 v, .int .i64 i] 23)).alloc (.cells #[.int .i64 0, .int .i64 0] 23)).alloc (.cells #[.int .i64 v, .int .i64 i] 23)) #[.int .u8 (v % 65536 / 256), .int .u8 (v % 256), .int .u8 i, .int .u8 0] 4 (by simp) (by unfold maxLen; omega) rfl
      have e0 : Dlt.rowK (v, i) zs 0 = [.int .u8 (v % 65536 / 256), .int .u8 (v % 256), .int .u8 i, .int .u8 0] := rfl
      rw [e0]
      rw [hs] at h
      exact h
    · exact (((Blk.new w _ _).alloc _).alloc _).alloc _
    · have h := Blk.new (w.alloc (.cells #[.int .i64 v, .int .i64 i] 23)) 23 #[.int .i64 0, .int .i64 0]
      rw [show (w.alloc (.cells #[.int .i64 v, .int .i64 i] 23)).heap.size = w.heap.size + 1 by simp] at h
      exact (h.alloc _).alloc _
    · exact ((((Below.refl _ w).alloc (Nat.le_refl _) _).alloc (by simp) _).alloc (by simp; omega) _).alloc (by simp; omega) _
  case round =>
    obtain ⟨k, A', c', n, xs, hk, rfl, rfl, HN, HX, hown, B0, B1, hb⟩ := hrel
    have HSV := Lib.hid (Dlt.stAt_valid (v, i) hv zs k)
    by_cases hlt : k < zs.length
    · obtain ⟨b, off, rfl, hbB, hcell⟩ := hA (by omega)
      have hzk := hz.at hlt
      have hck : wr.cell? ⟨b, off + k, none⟩ = some (.int .i16 (zs.getD k 0)) := (hb.cell (p := ⟨b, off + k, none⟩) hbB).trans (hcell k hlt)
      have HS := Lib.hid (Dlt.stAt_succ (v, i) zs k hlt)
      have hcd : Dlt.code (Dlt.stAt (v, i) zs k).1 (Dlt.stAt (v, i) zs k).2 (zs.getD k 0) = Dlt.codeAt (v, i) zs k := rfl
      obtain ⟨k0, k1⟩ := Dlt.codeAt_bd (v, i) zs k
      generalize hcc : Dlt.codeAt (v, i) zs k = c at *
      have HCC := Lib.hid hcc
      generalize zs.getD k 0 = z at hck hzk hcd
      have HC := Lib.hid hcd
      obtain ⟨z0, z1⟩ := hzk
      clear hcell hcd hcc
      generalize hV : (Dlt.stAt (v, i) zs k).1 = V at *
      generalize hI : (Dlt.stAt (v, i) zs k).2 = I at *
      have HV := Lib.hid hV
      have HI := Lib.hid hI
      have c0 := B0.at 0 _ rfl
      have c1 := B0.at 1 _ rfl
      have HB0 := Lib.hid B0
      have HB1 := Lib.hid B1
      have HO := Lib.hid hown
      have HB := Lib.hid hb
      have hn0 : (0 : Int) ≤ (k : Int) := by omega
      have hn1 : (k : Int) < (zs.length : Int) := by omega
      clear B0 B1 hb hV hI hown
      go_wp2
      go_still_tail 5, (by kernel_rfl)
      change wpList _ _ _ _ _ wr.drew
      go_wp2_with fail
      refine (rCode_any V I z wr.drew HSV.out z0 z1).mono ?_
      rintro e w5 ⟨rfl, hb5⟩
      rw [HC.out]
      have HB05 := Lib.hid (HB0.out.drew.later hb5)
      have HB15 := Lib.hid (HB1.out.drew.later hb5)
      have HO5 := Lib.hid (HO.out.drew.below hb5)
      have HBW5 := Lib.hid (HB.out.drew.trans (hb5.mono HB.out.size))
      clear hb5 HB0 HB1 HO HB c0 c1 hck
      have c0 := HB05.out.at 0 _ rfl
      have c1 := HB05.out.at 1 _ rfl
      go_wp2_with fail
      refine (rNext_any V I c _ HSV.out k0 k1).mono ?_
      rintro e w6 ⟨rfl, hb6⟩
      have HB06 := Lib.hid (HB05.out.later hb6)
      have HB16 := Lib.hid (HB15.out.later hb6)
      have HO6 := Lib.hid (HO5.out.below hb6)
      have HBW6 := Lib.hid (HBW5.out.trans (hb6.mono HBW5.out.size))
      clear hb6 HB05 HB15 HO5 HBW5 c0 c1
      have c0 := HB06.out.at 0 _ rfl
      have c1 := HB06.out.at 1 _ rfl
      have f0 := HB06.out.frozen 0
      have f1 := HB06.out.frozen 1
      have hbs := HBW6.out.size
      have hbs2 := HB16.out.lt
      by_cases hpar : k % 2 = 0
      · have hpar' : (k : Int) % 2 = 0 := by omega
        have HP := Lib.hid hpar
        have HM := Lib.hid (show n = 4 + (k + 1) / 2 from HN.out)
        have HO7 : Hid (Owns ((w6.setCell ⟨w.heap.size, 0, none⟩ (.int .i64 (Dlt.nextV V I c))).setCell ⟨w.heap.size, 1, none⟩ (.int .i64 (Dlt.nextI I c))) (w.heap.size + 1 + 1) 5 1 A' n c' xs) :=
          Lib.hid ((HO6.out.setCell (fun g hg => by have := (HO6.out.block g hg).1; simp; omega) _).setCell (fun g hg => by have := (HO6.out.block g hg).1; simp; omega) _)
        have hn2 : n ≤ 4004 := by rw [HN.out]; omega
        have HSZ : Hid (((w6.setCell ⟨w.heap.size, 0, none⟩ (.int .i64 (Dlt.nextV V I c))).setCell ⟨w.heap.size, 1, none⟩ (.int .i64 (Dlt.nextI I c))).heap.size = w6.heap.size) := Lib.hid (by simp [World.setCell])
        clear hpar
        go_wp2_with (at_builtin; go_loud (refine wpList_append_one rfl _ _ 37 rfl (w.heap.size + 1 + 1) 5 1 1 (.int .u8 0) Try.underlying37 info_u8 rfl (by decide) A' n c' xs rfl HO7.out [.int .u8 (16 * c)] rfl (by simp [Value.oneCell']) (by rw [HSZ.out]; rfl) (by unfold maxLen; omega) (by omega) (by rw [HSZ.out]; omega) ?_); intro A2 c2 w2 hown2 hg2 hlt2)
        go_roundw
        case rel =>
          refine ⟨k + 1, A2, c2, n + 1, xs ++ [.int .u8 (16 * c)], by omega, by go_num, rfl, Lib.hid (by rw [HN.out]; have := HP.out; omega), Lib.hid (by rw [HX.out, Dlt.rowK_even _ _ _ HP.out, HCC.out]), hown2, ?_, ?_, ?_⟩
          · rw [HS.out]
            exact ((HB06.out.set_ 0 _).set_ 1 _).grown hg2 (fun h => by have := (HO7.out.block _ h.symm).1; omega)
          · exact ((HB16.out.far (by simp) _).far (by simp) _).grown hg2 (fun h => by have := (HO7.out.block _ h.symm).1; omega)
          · exact below_own ((HBW6.out.setCell (by simp) _).setCell (by simp) _) HO7.out hg2 (by simp; omega) (by omega)
        case measure => simp [intOf]; omega
      · have hpar' : (k : Int) % 2 = 1 := by omega
        have HP := Lib.hid (show k % 2 = 1 by omega)
        obtain ⟨p0, p1⟩ := Dlt.codeAt_bd (v, i) zs (k - 1)
        have HL := Dlt.rowK_last (v, i) zs k HP.out
        rw [← HX.out] at HL
        have HO6' := Dlt.rowK_odd (v, i) zs k HP.out
        rw [HCC.out] at HO6'
        generalize Dlt.codeAt (v, i) zs (k - 1) = cp at *
        have HR := Lib.hid HO6'
        clear HO6'
        obtain ⟨g, rfl, hg0, hg1⟩ := HO6.out.form (by rw [HN.out]; omega)
        obtain ⟨M, hM⟩ : ∃ M, M = 4 + k / 2 := ⟨_, rfl⟩
        obtain rfl : n = M + 1 := by rw [HN.out]; omega
        rw [← hM] at HL
        have HM := Lib.hid hM
        have hM2 : M ≤ 4004 := by omega
        have hn3 : ((M + 1 : Nat) : Int) - 1 = (M : Int) := by omega
        have hrc : w6.cell? ⟨g, M, none⟩ = some (.int .u8 (16 * cp)) := by
          have h := World.ownsRow.cellAt HO6.out M (by omega)
          rw [h, HL]
        have hrf : w6.frozen? ⟨g, M, none⟩ = false := World.ownsRow.frozenAt HO6.out M
        have hd1 : w.heap.size ≠ g := by omega
        have hd2 : g ≠ w.heap.size := by omega
        clear hpar hM HL
        go_wp2
        go_roundw
        case rel =>
          have h := World.ownsRow.stored ((HO6.out.setCell (p := ⟨w.heap.size, 0, none⟩) (fun g' hg => by injection hg with hg; subst hg; simp; omega) (.int .i64 (Dlt.nextV V I c))).setCell (p := ⟨w.heap.size, 1, none⟩) (fun g' hg => by injection hg with hg; subst hg; simp; omega) (.int .i64 (Dlt.nextI I c))) M (.int .u8 (16 * cp + c))
          refine ⟨k + 1, some ⟨g, 0, none⟩, c', M + 1, xs.set M (.int .u8 (16 * cp + c)), by omega, by go_num, rfl, Lib.hid (by rw [HM.out]; have := HP.out; omega), Lib.hid (by rw [HR.out, HX.out, HM.out]), h.1, ?_, ?_, ?_⟩
          · rw [HS.out]
            exact ((HB06.out.set_ 0 _).set_ 1 _).far (by simp; omega) _
          · exact ((HB16.out.far (by simp) _).far (by simp) _).far (by simp; omega) _
          · exact ((HBW6.out.setCell (by simp) _).setCell (by simp) _).setCell (by simp; omega) _
        case measure => simp [intOf]; omega
    · obtain rfl : k = zs.length := by omega
      clear hA hz
      have HB0 := Lib.hid B0
      have HB1 := Lib.hid B1
      have HO := Lib.hid hown
      have HB := Lib.hid hb
      obtain ⟨g, rfl, hg0, hg1⟩ := hown.form (by rw [HN.out]; omega)
      generalize hV : (Dlt.stAt (v, i) zs zs.length).1 = V at *
      generalize hI : (Dlt.stAt (v, i) zs zs.length).2 = I at *
      have HV := Lib.hid hV
      have HI := Lib.hid hI
      have c0 := B0.at 0 _ rfl
      have c1 := B0.at 1 _ rfl
      have d0 := B1.at 0 _ rfl
      have d1 := B1.at 1 _ rfl
      have f0 := B1.frozen 0
      have f1 := B1.frozen 1
      clear B0 B1 hb hV hI hown
      go_wp2
      go_region
      go_wp2
      refine bodyPost_ret (v := .tuple #[.slice (some ⟨g, 0, none⟩) n c', .agg #[.int .i64 V, .int .i64 I], .int .u8 0]) (by simp [results, Try.results20, go_sem, d0, d1]) rfl ?_
      refine ⟨some ⟨g, 0, none⟩, c', by rw [HV.out, HI.out, HN.out], ?_, ?_⟩
      · have h : Owns _ (w.heap.size + 1 + 1) 5 1 (some ⟨g, 0, none⟩) n c' xs := ((HO.out.setCell (p := ⟨w.heap.size + 1, 0, none⟩) (fun g' hg => by injection hg with hg; subst hg; simp; omega) (.int .i64 V)).setCell (p := ⟨w.heap.size + 1, 1, none⟩) (fun g' hg => by injection hg with hg; subst hg; simp; omega) (.int .i64 I)).drew
        rw [HX.out, Dlt.rowK_all] at h
        exact h.ints
      · exact ((HB.out.setCell (by simp) _).setCell (by simp) _).drew
set_option maxHeartbeats 400000 in
theorem rPack_bad (v i : Int) (A : Option Addr) (n cap : Nat) (w : World) (hv : Dlt.valid v i = false) :
    Calls Try.prog 20 #[.agg #[.int .i64 v, .int .i64 i], .slice A n cap] w fun e w' => e = .returned (.tuple #[.slice none 0 0, .agg #[.int .i64 0, .int .i64 0], .int .u8 2]) ∧ Below w.heap.size w w' := by
  go_enter Try.func20, Try.ntmps20
  go_wp2_with fail
  refine (rValid_any v i _).mono ?_
  rintro e w' ⟨rfl, rfl⟩
  rw [hv]
  clear hv
  go_wp2_with fail
  refine bodyPost_ret (v := .tuple #[.slice none 0 0, .agg #[.int .i64 0, .int .i64 0], .int .u8 2]) (by simp [results, Try.results20, go_sem]) rfl ⟨rfl, ?_⟩
  repeat (first | exact Below.refl _ _ | refine Below.setCell ?_ (by simp) _ | refine Below.alloc ?_ (by simp; try omega) _)
set_option maxHeartbeats 400000 in
theorem rPack_long (v i : Int) (A : Option Addr) (n cap : Nat) (w : World) (hv : Dlt.valid v i = true) (h8 : 8000 < n) :
    Calls Try.prog 20 #[.agg #[.int .i64 v, .int .i64 i], .slice A n cap] w fun e w' => e = .returned (.tuple #[.slice none 0 0, .agg #[.int .i64 0, .int .i64 0], .int .u8 4]) ∧ Below w.heap.size w w' := by
  go_enter Try.func20, Try.ntmps20
  go_wp2_with fail
  refine (rValid_any v i _).mono ?_
  rintro e w' ⟨rfl, rfl⟩
  rw [hv]
  clear hv
  go_wp2_with fail
  refine bodyPost_ret (v := .tuple #[.slice none 0 0, .agg #[.int .i64 0, .int .i64 0], .int .u8 4]) (by simp [results, Try.results20, go_sem]) rfl ⟨rfl, ?_⟩
  repeat (first | exact Below.refl _ _ | refine Below.setCell ?_ (by simp) _ | refine Below.alloc ?_ (by simp; try omega) _)
end Go.Proofs.Ytcnijhcoifodpaa

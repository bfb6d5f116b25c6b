/- Layer 32: Transcode. -/
import Derived.Test.YtahbecinkciahaaGreatCmpLawsQ
import Derived.Test.YtahbecinkciahaaGreatSbCodecQ
import Derived.RegionTactic
namespace Go.Proofs.YtahbecinkciahaaGreat
open Go.RowKit
set_option linter.unusedVariables false
set_option linter.unusedSimpArgs false
attribute [local go_sem ↓] run_min_plain run_max_plain
attribute [local go_sem] setCell_drewN alloc_drewN
/-- what Transcode leaves -/
def TranR (T : List Int × (Int × Int) × Int) (w : World) (e : Ending) (w' : World) : Prop := ∃ (A' : Option Addr) (c' : Nat), e = .returned (.tuple #[.slice A' T.1.length c', .agg #[.int .i64 T.2.1.1, .int .i64 T.2.1.2], .int .u8 T.2.2]) ∧ IntsAt w' w'.heap.size .u8 A' T.1 ∧ Below w.heap.size w w'
theorem unpR_len (bs : List Int) (n : Int) : (Dlt.unpR bs n).1.length ≤ 8000 := by
  unfold Dlt.unpR
  split
  · simp
  · split
    · simp
    · split
      · simp only [Dlt.unpackL_len]; omega
      · simp
theorem unpR_in (bs : List Int) (n : Int) (hz : Within 0 255 bs) : Within (-32768) 32767 (Dlt.unpR bs n).1 := by
  unfold Dlt.unpR
  split
  · intro z h; cases h
  · split
    · intro z h; cases h
    · split
      · rename_i hk
        intro z h
        obtain ⟨j, _, rfl⟩ := List.mem_map.1 h
        have h1 := Dlt.dAt_valid (Dlt.headS bs) (Dlt.headS_valid bs n.toNat hk hz) bs (j + 1)
        simp [Dlt.valid] at h1
        omega
      · intro z h; cases h
theorem field0_law (g : Nat) (w : World) : (Instr.field 97 (cLaw g) 0).run Tryz.prog w = .ok (.func (.func 136) #[] #[.pointer (some ⟨g, 0, none⟩)]) w := by kernel_rfl
set_option maxRecDepth 100000 in
set_option maxHeartbeats 12800000 in
theorem tr_no1 (k : Int) (h0 : 0 ≤ k) (h1 : k ≤ 255) (hs : ¬(k = 0 ∨ k = 8 ∨ k = 96)) (y : Int) (y0 : 0 ≤ y) (y1 : y ≤ 255) (A : Option Addr) (bs : List Int) (c : Nat) (v i : Int) (w : World) (hA : IntsAt w w.heap.size .u8 A bs) (hz : Within 0 255 bs) (h8 : bs.length ≤ 5000) (hc : bs.length ≤ c) : Calls Tryz.prog 8 #[.int .u8 k, .int .u8 y, .slice A bs.length c, .agg #[.int .i64 v, .int .i64 i]] w (TranR ([], (0, 0), 15) w) := by
  have HA := Lib.hid ((hA.push (.cells #[.int .i64 v, .int .i64 i] 24)).push (.cells #[.int .i64 0, .int .i64 0] 24))
  have B0 := Lib.hid ((Blk.new w 24 #[.int .i64 v, .int .i64 i]).push (.cells #[.int .i64 0, .int .i64 0] 24))
  have B1 := Lib.hid (Blk.new1 w (.cells #[.int .i64 v, .int .i64 i] 24) 24 #[.int .i64 0, .int .i64 0])
  have U := Lib.hid (((Bel.refl w).push (.cells #[.int .i64 v, .int .i64 i] 24)).push (.cells #[.int .i64 0, .int .i64 0] 24))
  clear hA
  go_enter Tryz.func8, Tryz.ntmps8
  go_upto_region 1 with fail
  change Code.wp _ _ _ _ ((w.alloc (Obj.cells #[.int .i64 v, .int .i64 i] 24)).alloc (Obj.cells #[.int .i64 0, .int .i64 0] 24))
  obtain ⟨W, hW⟩ : ∃ W, W = (w.alloc (Obj.cells #[.int .i64 v, .int .i64 i] 24)).alloc (Obj.cells #[.int .i64 0, .int .i64 0] 24) := ⟨_, rfl⟩
  rw [← hW] at HA B0 B1 U ⊢
  clear hW
  go_wp2_with fail
  refine (codecs_any _).mono ?_
  rintro e w1 ⟨m1, a1, d1, rfl, C, hb⟩
  have kl1 := (look_codec C k (by omega) (by omega)).2
  rw [show cAt a1 d1 k = cNil by unfold cAt; rw [if_neg (by omega), if_neg (by omega), if_neg (by omega)], speechB_f hs] at kl1
  simp only [cNil] at kl1
  replace HA := Lib.hid ((HA.out.later hb).push (.cells #[.nilFunc, .nilFunc] 97))
  replace B0 := Lib.hid ((B0.out.later hb).push (.cells #[.nilFunc, .nilFunc] 97))
  replace B1 := Lib.hid ((B1.out.later hb).push (.cells #[.nilFunc, .nilFunc] 97))
  replace U := Lib.hid ((U.out.later hb).push (.cells #[.nilFunc, .nilFunc] 97))
  have BC1 := Lib.hid (Blk.new w1 97 #[.nilFunc, .nilFunc])
  clear C hb
  go_wp2_with fail
  refine (codecs_any _).mono ?_
  rintro e w2 ⟨m2, a2, d2, rfl, C, hb⟩
  have kl2 := (look_codec C y y0 y1).2
  replace B0 := Lib.hid (B0.out.later hb)
  replace B1 := Lib.hid (B1.out.later hb)
  replace U := Lib.hid (U.out.later hb)
  clear C hb
  rcases cAt_cases a2 d2 y with hh | hh | hh | hh
  · rw [hh] at kl2
    simp only [cLaw, cDel, cNil] at kl2
    clear hh
    replace B0 := Lib.hid (B0.out.push (.cells #[.func (.func 136) #[] #[.pointer (some ⟨a2, 0, none⟩)], .func (.func 138) #[] #[.pointer (some ⟨a2, 0, none⟩)]] 97))
    replace B1 := Lib.hid (B1.out.push (.cells #[.func (.func 136) #[] #[.pointer (some ⟨a2, 0, none⟩)], .func (.func 138) #[] #[.pointer (some ⟨a2, 0, none⟩)]] 97))
    replace U := Lib.hid (U.out.push (.cells #[.func (.func 136) #[] #[.pointer (some ⟨a2, 0, none⟩)], .func (.func 138) #[] #[.pointer (some ⟨a2, 0, none⟩)]] 97))
    have y0 := B1.out.at 0 _ rfl
    have y1 := B1.out.at 1 _ rfl
    have yz := B1.out.frozen
    go_wp2_with fail
    have Y1 := (B1.out.set_ 0 (.int .i64 0)).set_ 1 (.int .i64 0)
    refine bodyPost_ret (v := .tuple #[.slice none 0 0, .agg #[.int .i64 0, .int .i64 0], .int .u8 15]) (res_tct Tryz.results8 rfl rfl (run_loadVar_row (P := Tryz.prog) _ _ _ _ _ _ _ Y1 Tryz.underlying24 rfl (by kernel_rfl)) rfl) rfl ⟨none, 0, rfl, IntsAt.nil, below_set_old (below_set_old U.out (by simp) _) (by simp) _⟩
  · rw [hh] at kl2
    simp only [cLaw, cDel, cNil] at kl2
    clear hh
    replace B0 := Lib.hid (B0.out.push (.cells #[.func (.func 136) #[] #[.pointer (some ⟨d2, 0, none⟩)], .func (.func 138) #[] #[.pointer (some ⟨d2, 0, none⟩)]] 97))
    replace B1 := Lib.hid (B1.out.push (.cells #[.func (.func 136) #[] #[.pointer (some ⟨d2, 0, none⟩)], .func (.func 138) #[] #[.pointer (some ⟨d2, 0, none⟩)]] 97))
    replace U := Lib.hid (U.out.push (.cells #[.func (.func 136) #[] #[.pointer (some ⟨d2, 0, none⟩)], .func (.func 138) #[] #[.pointer (some ⟨d2, 0, none⟩)]] 97))
    have y0 := B1.out.at 0 _ rfl
    have y1 := B1.out.at 1 _ rfl
    have yz := B1.out.frozen
    go_wp2_with fail
    have Y1 := (B1.out.set_ 0 (.int .i64 0)).set_ 1 (.int .i64 0)
    refine bodyPost_ret (v := .tuple #[.slice none 0 0, .agg #[.int .i64 0, .int .i64 0], .int .u8 15]) (res_tct Tryz.results8 rfl rfl (run_loadVar_row (P := Tryz.prog) _ _ _ _ _ _ _ Y1 Tryz.underlying24 rfl (by kernel_rfl)) rfl) rfl ⟨none, 0, rfl, IntsAt.nil, below_set_old (below_set_old U.out (by simp) _) (by simp) _⟩
  · rw [hh] at kl2
    simp only [cLaw, cDel, cNil] at kl2
    clear hh
    replace B0 := Lib.hid (B0.out.push (.cells #[.func (.func 92) #[] #[], .func (.func 93) #[] #[]] 97))
    replace B1 := Lib.hid (B1.out.push (.cells #[.func (.func 92) #[] #[], .func (.func 93) #[] #[]] 97))
    replace U := Lib.hid (U.out.push (.cells #[.func (.func 92) #[] #[], .func (.func 93) #[] #[]] 97))
    have y0 := B1.out.at 0 _ rfl
    have y1 := B1.out.at 1 _ rfl
    have yz := B1.out.frozen
    go_wp2_with fail
    have Y1 := (B1.out.set_ 0 (.int .i64 0)).set_ 1 (.int .i64 0)
    refine bodyPost_ret (v := .tuple #[.slice none 0 0, .agg #[.int .i64 0, .int .i64 0], .int .u8 15]) (res_tct Tryz.results8 rfl rfl (run_loadVar_row (P := Tryz.prog) _ _ _ _ _ _ _ Y1 Tryz.underlying24 rfl (by kernel_rfl)) rfl) rfl ⟨none, 0, rfl, IntsAt.nil, below_set_old (below_set_old U.out (by simp) _) (by simp) _⟩
  · rw [hh] at kl2
    simp only [cLaw, cDel, cNil] at kl2
    clear hh
    replace B0 := Lib.hid (B0.out.push (.cells #[.nilFunc, .nilFunc] 97))
    replace B1 := Lib.hid (B1.out.push (.cells #[.nilFunc, .nilFunc] 97))
    replace U := Lib.hid (U.out.push (.cells #[.nilFunc, .nilFunc] 97))
    have y0 := B1.out.at 0 _ rfl
    have y1 := B1.out.at 1 _ rfl
    have yz := B1.out.frozen
    go_wp2_with fail
    have Y1 := (B1.out.set_ 0 (.int .i64 0)).set_ 1 (.int .i64 0)
    refine bodyPost_ret (v := .tuple #[.slice none 0 0, .agg #[.int .i64 0, .int .i64 0], .int .u8 15]) (res_tct Tryz.results8 rfl rfl (run_loadVar_row (P := Tryz.prog) _ _ _ _ _ _ _ Y1 Tryz.underlying24 rfl (by kernel_rfl)) rfl) rfl ⟨none, 0, rfl, IntsAt.nil, below_set_old (below_set_old U.out (by simp) _) (by simp) _⟩
set_option maxRecDepth 100000 in
set_option maxHeartbeats 12800000 in
theorem tr_no2_0 (k : Int) (h0 : 0 ≤ k) (h1 : k ≤ 255) (hs : ¬(k = 0 ∨ k = 8 ∨ k = 96)) (A : Option Addr) (bs : List Int) (c : Nat) (v i : Int) (w : World) (hA : IntsAt w w.heap.size .u8 A bs) (hz : Within 0 255 bs) (h8 : bs.length ≤ 5000) (hc : bs.length ≤ c) : Calls Tryz.prog 8 #[.int .u8 0, .int .u8 k, .slice A bs.length c, .agg #[.int .i64 v, .int .i64 i]] w (TranR ([], (0, 0), 15) w) := by
  have HA := Lib.hid ((hA.push (.cells #[.int .i64 v, .int .i64 i] 24)).push (.cells #[.int .i64 0, .int .i64 0] 24))
  have B0 := Lib.hid ((Blk.new w 24 #[.int .i64 v, .int .i64 i]).push (.cells #[.int .i64 0, .int .i64 0] 24))
  have B1 := Lib.hid (Blk.new1 w (.cells #[.int .i64 v, .int .i64 i] 24) 24 #[.int .i64 0, .int .i64 0])
  have U := Lib.hid (((Bel.refl w).push (.cells #[.int .i64 v, .int .i64 i] 24)).push (.cells #[.int .i64 0, .int .i64 0] 24))
  clear hA
  go_enter Tryz.func8, Tryz.ntmps8
  go_upto_region 1 with fail
  change Code.wp _ _ _ _ ((w.alloc (Obj.cells #[.int .i64 v, .int .i64 i] 24)).alloc (Obj.cells #[.int .i64 0, .int .i64 0] 24))
  obtain ⟨W, hW⟩ : ∃ W, W = (w.alloc (Obj.cells #[.int .i64 v, .int .i64 i] 24)).alloc (Obj.cells #[.int .i64 0, .int .i64 0] 24) := ⟨_, rfl⟩
  rw [← hW] at HA B0 B1 U ⊢
  clear hW
  go_wp2_with fail
  refine (codecs_any _).mono ?_
  rintro e w1 ⟨m1, a1, d1, rfl, C, hb⟩
  have kl1 := (look_codec C 0 (by omega) (by omega)).2
  rw [show cAt a1 d1 0 = cLaw a1 from rfl, show speechB 0 = true from rfl] at kl1
  simp only [cLaw, cDel] at kl1
  have HL1 := Lib.hid (C.l1.push (.cells #[.func (.func 136) #[] #[.pointer (some ⟨a1, 0, none⟩)], .func (.func 138) #[] #[.pointer (some ⟨a1, 0, none⟩)]] 97))
  replace HA := Lib.hid ((HA.out.later hb).push (.cells #[.func (.func 136) #[] #[.pointer (some ⟨a1, 0, none⟩)], .func (.func 138) #[] #[.pointer (some ⟨a1, 0, none⟩)]] 97))
  replace B0 := Lib.hid ((B0.out.later hb).push (.cells #[.func (.func 136) #[] #[.pointer (some ⟨a1, 0, none⟩)], .func (.func 138) #[] #[.pointer (some ⟨a1, 0, none⟩)]] 97))
  replace B1 := Lib.hid ((B1.out.later hb).push (.cells #[.func (.func 136) #[] #[.pointer (some ⟨a1, 0, none⟩)], .func (.func 138) #[] #[.pointer (some ⟨a1, 0, none⟩)]] 97))
  replace U := Lib.hid ((U.out.later hb).push (.cells #[.func (.func 136) #[] #[.pointer (some ⟨a1, 0, none⟩)], .func (.func 138) #[] #[.pointer (some ⟨a1, 0, none⟩)]] 97))
  have BC1 := Lib.hid (Blk.new w1 97 #[.func (.func 136) #[] #[.pointer (some ⟨a1, 0, none⟩)], .func (.func 138) #[] #[.pointer (some ⟨a1, 0, none⟩)]])
  clear C hb
  go_wp2_with fail
  refine (codecs_any _).mono ?_
  rintro e w2 ⟨m2, a2, d2, rfl, C, hb⟩
  have kl2 := (look_codec C k (by omega) (by omega)).2
  rw [show cAt a2 d2 k = cNil by unfold cAt; rw [if_neg (by omega), if_neg (by omega), if_neg (by omega)], speechB_f hs] at kl2
  simp only [cNil] at kl2
  replace HA := Lib.hid ((HA.out.later hb).push (.cells #[.nilFunc, .nilFunc] 97))
  replace B0 := Lib.hid ((B0.out.later hb).push (.cells #[.nilFunc, .nilFunc] 97))
  replace B1 := Lib.hid ((B1.out.later hb).push (.cells #[.nilFunc, .nilFunc] 97))
  replace U := Lib.hid ((U.out.later hb).push (.cells #[.nilFunc, .nilFunc] 97))
  replace BC1 := Lib.hid ((BC1.out.later hb).push (.cells #[.nilFunc, .nilFunc] 97))
  have BC2 := Lib.hid (Blk.new w2 97 #[.nilFunc, .nilFunc])
  clear C hb
  have y0 := B1.out.at 0 _ rfl
  have y1 := B1.out.at 1 _ rfl
  have yz := B1.out.frozen
  go_wp2_with fail
  have Y1 := (B1.out.set_ 0 (.int .i64 0)).set_ 1 (.int .i64 0)
  refine bodyPost_ret (v := .tuple #[.slice none 0 0, .agg #[.int .i64 0, .int .i64 0], .int .u8 15]) (res_tct Tryz.results8 rfl rfl (run_loadVar_row (P := Tryz.prog) _ _ _ _ _ _ _ Y1 Tryz.underlying24 rfl (by kernel_rfl)) rfl) rfl ⟨none, 0, rfl, IntsAt.nil, below_set_old (below_set_old U.out (by simp) _) (by simp) _⟩
set_option maxRecDepth 100000 in
set_option maxHeartbeats 12800000 in
theorem tr_no2_8 (k : Int) (h0 : 0 ≤ k) (h1 : k ≤ 255) (hs : ¬(k = 0 ∨ k = 8 ∨ k = 96)) (A : Option Addr) (bs : List Int) (c : Nat) (v i : Int) (w : World) (hA : IntsAt w w.heap.size .u8 A bs) (hz : Within 0 255 bs) (h8 : bs.length ≤ 5000) (hc : bs.length ≤ c) : Calls Tryz.prog 8 #[.int .u8 8, .int .u8 k, .slice A bs.length c, .agg #[.int .i64 v, .int .i64 i]] w (TranR ([], (0, 0), 15) w) := by
  have HA := Lib.hid ((hA.push (.cells #[.int .i64 v, .int .i64 i] 24)).push (.cells #[.int .i64 0, .int .i64 0] 24))
  have B0 := Lib.hid ((Blk.new w 24 #[.int .i64 v, .int .i64 i]).push (.cells #[.int .i64 0, .int .i64 0] 24))
  have B1 := Lib.hid (Blk.new1 w (.cells #[.int .i64 v, .int .i64 i] 24) 24 #[.int .i64 0, .int .i64 0])
  have U := Lib.hid (((Bel.refl w).push (.cells #[.int .i64 v, .int .i64 i] 24)).push (.cells #[.int .i64 0, .int .i64 0] 24))
  clear hA
  go_enter Tryz.func8, Tryz.ntmps8
  go_upto_region 1 with fail
  change Code.wp _ _ _ _ ((w.alloc (Obj.cells #[.int .i64 v, .int .i64 i] 24)).alloc (Obj.cells #[.int .i64 0, .int .i64 0] 24))
  obtain ⟨W, hW⟩ : ∃ W, W = (w.alloc (Obj.cells #[.int .i64 v, .int .i64 i] 24)).alloc (Obj.cells #[.int .i64 0, .int .i64 0] 24) := ⟨_, rfl⟩
  rw [← hW] at HA B0 B1 U ⊢
  clear hW
  go_wp2_with fail
  refine (codecs_any _).mono ?_
  rintro e w1 ⟨m1, a1, d1, rfl, C, hb⟩
  have kl1 := (look_codec C 8 (by omega) (by omega)).2
  rw [show cAt a1 d1 8 = cLaw d1 from rfl, show speechB 8 = true from rfl] at kl1
  simp only [cLaw, cDel] at kl1
  have HL1 := Lib.hid (C.l2.push (.cells #[.func (.func 136) #[] #[.pointer (some ⟨d1, 0, none⟩)], .func (.func 138) #[] #[.pointer (some ⟨d1, 0, none⟩)]] 97))
  replace HA := Lib.hid ((HA.out.later hb).push (.cells #[.func (.func 136) #[] #[.pointer (some ⟨d1, 0, none⟩)], .func (.func 138) #[] #[.pointer (some ⟨d1, 0, none⟩)]] 97))
  replace B0 := Lib.hid ((B0.out.later hb).push (.cells #[.func (.func 136) #[] #[.pointer (some ⟨d1, 0, none⟩)], .func (.func 138) #[] #[.pointer (some ⟨d1, 0, none⟩)]] 97))
  replace B1 := Lib.hid ((B1.out.later hb).push (.cells #[.func (.func 136) #[] #[.pointer (some ⟨d1, 0, none⟩)], .func (.func 138) #[] #[.pointer (some ⟨d1, 0, none⟩)]] 97))
  replace U := Lib.hid ((U.out.later hb).push (.cells #[.func (.func 136) #[] #[.pointer (some ⟨d1, 0, none⟩)], .func (.func 138) #[] #[.pointer (some ⟨d1, 0, none⟩)]] 97))
  have BC1 := Lib.hid (Blk.new w1 97 #[.func (.func 136) #[] #[.pointer (some ⟨d1, 0, none⟩)], .func (.func 138) #[] #[.pointer (some ⟨d1, 0, none⟩)]])
  clear C hb
  go_wp2_with fail
  refine (codecs_any _).mono ?_
  rintro e w2 ⟨m2, a2, d2, rfl, C, hb⟩
  have kl2 := (look_codec C k (by omega) (by omega)).2
  rw [show cAt a2 d2 k = cNil by unfold cAt; rw [if_neg (by omega), if_neg (by omega), if_neg (by omega)], speechB_f hs] at kl2
  simp only [cNil] at kl2
  replace HA := Lib.hid ((HA.out.later hb).push (.cells #[.nilFunc, .nilFunc] 97))
  replace B0 := Lib.hid ((B0.out.later hb).push (.cells #[.nilFunc, .nilFunc] 97))
  replace B1 := Lib.hid ((B1.out.later hb).push (.cells #[.nilFunc, .nilFunc] 97))
  replace U := Lib.hid ((U.out.later hb).push (.cells #[.nilFunc, .nilFunc] 97))
  replace BC1 := Lib.hid ((BC1.out.later hb).push (.cells #[.nilFunc, .nilFunc] 97))
  have BC2 := Lib.hid (Blk.new w2 97 #[.nilFunc, .nilFunc])
  clear C hb
  have y0 := B1.out.at 0 _ rfl
  have y1 := B1.out.at 1 _ rfl
  have yz := B1.out.frozen
  go_wp2_with fail
  have Y1 := (B1.out.set_ 0 (.int .i64 0)).set_ 1 (.int .i64 0)
  refine bodyPost_ret (v := .tuple #[.slice none 0 0, .agg #[.int .i64 0, .int .i64 0], .int .u8 15]) (res_tct Tryz.results8 rfl rfl (run_loadVar_row (P := Tryz.prog) _ _ _ _ _ _ _ Y1 Tryz.underlying24 rfl (by kernel_rfl)) rfl) rfl ⟨none, 0, rfl, IntsAt.nil, below_set_old (below_set_old U.out (by simp) _) (by simp) _⟩
set_option maxRecDepth 100000 in
set_option maxHeartbeats 12800000 in
theorem tr_no2_96 (k : Int) (h0 : 0 ≤ k) (h1 : k ≤ 255) (hs : ¬(k = 0 ∨ k = 8 ∨ k = 96)) (A : Option Addr) (bs : List Int) (c : Nat) (v i : Int) (w : World) (hA : IntsAt w w.heap.size .u8 A bs) (hz : Within 0 255 bs) (h8 : bs.length ≤ 5000) (hc : bs.length ≤ c) : Calls Tryz.prog 8 #[.int .u8 96, .int .u8 k, .slice A bs.length c, .agg #[.int .i64 v, .int .i64 i]] w (TranR ([], (0, 0), 15) w) := by
  have HA := Lib.hid ((hA.push (.cells #[.int .i64 v, .int .i64 i] 24)).push (.cells #[.int .i64 0, .int .i64 0] 24))
  have B0 := Lib.hid ((Blk.new w 24 #[.int .i64 v, .int .i64 i]).push (.cells #[.int .i64 0, .int .i64 0] 24))
  have B1 := Lib.hid (Blk.new1 w (.cells #[.int .i64 v, .int .i64 i] 24) 24 #[.int .i64 0, .int .i64 0])
  have U := Lib.hid (((Bel.refl w).push (.cells #[.int .i64 v, .int .i64 i] 24)).push (.cells #[.int .i64 0, .int .i64 0] 24))
  clear hA
  go_enter Tryz.func8, Tryz.ntmps8
  go_upto_region 1 with fail
  change Code.wp _ _ _ _ ((w.alloc (Obj.cells #[.int .i64 v, .int .i64 i] 24)).alloc (Obj.cells #[.int .i64 0, .int .i64 0] 24))
  obtain ⟨W, hW⟩ : ∃ W, W = (w.alloc (Obj.cells #[.int .i64 v, .int .i64 i] 24)).alloc (Obj.cells #[.int .i64 0, .int .i64 0] 24) := ⟨_, rfl⟩
  rw [← hW] at HA B0 B1 U ⊢
  clear hW
  go_wp2_with fail
  refine (codecs_any _).mono ?_
  rintro e w1 ⟨m1, a1, d1, rfl, C, hb⟩
  have kl1 := (look_codec C 96 (by omega) (by omega)).2
  rw [show cAt a1 d1 96 = cDel from rfl, show speechB 96 = true from rfl] at kl1
  simp only [cLaw, cDel] at kl1
  replace HA := Lib.hid ((HA.out.later hb).push (.cells #[.func (.func 92) #[] #[], .func (.func 93) #[] #[]] 97))
  replace B0 := Lib.hid ((B0.out.later hb).push (.cells #[.func (.func 92) #[] #[], .func (.func 93) #[] #[]] 97))
  replace B1 := Lib.hid ((B1.out.later hb).push (.cells #[.func (.func 92) #[] #[], .func (.func 93) #[] #[]] 97))
  replace U := Lib.hid ((U.out.later hb).push (.cells #[.func (.func 92) #[] #[], .func (.func 93) #[] #[]] 97))
  have BC1 := Lib.hid (Blk.new w1 97 #[.func (.func 92) #[] #[], .func (.func 93) #[] #[]])
  clear C hb
  go_wp2_with fail
  refine (codecs_any _).mono ?_
  rintro e w2 ⟨m2, a2, d2, rfl, C, hb⟩
  have kl2 := (look_codec C k (by omega) (by omega)).2
  rw [show cAt a2 d2 k = cNil by unfold cAt; rw [if_neg (by omega), if_neg (by omega), if_neg (by omega)], speechB_f hs] at kl2
  simp only [cNil] at kl2
  replace HA := Lib.hid ((HA.out.later hb).push (.cells #[.nilFunc, .nilFunc] 97))
  replace B0 := Lib.hid ((B0.out.later hb).push (.cells #[.nilFunc, .nilFunc] 97))
  replace B1 := Lib.hid ((B1.out.later hb).push (.cells #[.nilFunc, .nilFunc] 97))
  replace U := Lib.hid ((U.out.later hb).push (.cells #[.nilFunc, .nilFunc] 97))
  replace BC1 := Lib.hid ((BC1.out.later hb).push (.cells #[.nilFunc, .nilFunc] 97))
  have BC2 := Lib.hid (Blk.new w2 97 #[.nilFunc, .nilFunc])
  clear C hb
  have y0 := B1.out.at 0 _ rfl
  have y1 := B1.out.at 1 _ rfl
  have yz := B1.out.frozen
  go_wp2_with fail
  have Y1 := (B1.out.set_ 0 (.int .i64 0)).set_ 1 (.int .i64 0)
  refine bodyPost_ret (v := .tuple #[.slice none 0 0, .agg #[.int .i64 0, .int .i64 0], .int .u8 15]) (res_tct Tryz.results8 rfl rfl (run_loadVar_row (P := Tryz.prog) _ _ _ _ _ _ _ Y1 Tryz.underlying24 rfl (by kernel_rfl)) rfl) rfl ⟨none, 0, rfl, IntsAt.nil, below_set_old (below_set_old U.out (by simp) _) (by simp) _⟩
set_option maxRecDepth 100000 in
set_option maxHeartbeats 12800000 in
theorem tr_short_0 (A : Option Addr) (bs : List Int) (c : Nat) (v i : Int) (w : World) (hA : IntsAt w w.heap.size .u8 A bs) (hz : Within 0 255 bs) (h8 : bs.length ≤ 5000) (hc : bs.length ≤ c) (h4 : bs.length < 4) : Calls Tryz.prog 8 #[.int .u8 96, .int .u8 0, .slice A bs.length c, .agg #[.int .i64 v, .int .i64 i]] w (TranR ([], (0, 0), 6) w) := by
  have h4i : (bs.length : Int) < 4 := by omega
  have HA := Lib.hid ((hA.push (.cells #[.int .i64 v, .int .i64 i] 24)).push (.cells #[.int .i64 0, .int .i64 0] 24))
  have B0 := Lib.hid ((Blk.new w 24 #[.int .i64 v, .int .i64 i]).push (.cells #[.int .i64 0, .int .i64 0] 24))
  have B1 := Lib.hid (Blk.new1 w (.cells #[.int .i64 v, .int .i64 i] 24) 24 #[.int .i64 0, .int .i64 0])
  have U := Lib.hid (((Bel.refl w).push (.cells #[.int .i64 v, .int .i64 i] 24)).push (.cells #[.int .i64 0, .int .i64 0] 24))
  clear hA
  go_enter Tryz.func8, Tryz.ntmps8
  go_upto_region 1 with fail
  change Code.wp _ _ _ _ ((w.alloc (Obj.cells #[.int .i64 v, .int .i64 i] 24)).alloc (Obj.cells #[.int .i64 0, .int .i64 0] 24))
  obtain ⟨W, hW⟩ : ∃ W, W = (w.alloc (Obj.cells #[.int .i64 v, .int .i64 i] 24)).alloc (Obj.cells #[.int .i64 0, .int .i64 0] 24) := ⟨_, rfl⟩
  rw [← hW] at HA B0 B1 U ⊢
  clear hW
  go_wp2_with fail
  refine (codecs_any _).mono ?_
  rintro e w1 ⟨m1, a1, d1, rfl, C, hb⟩
  have kl1 := (look_codec C 96 (by omega) (by omega)).2
  rw [show cAt a1 d1 96 = cDel from rfl, show speechB 96 = true from rfl] at kl1
  simp only [cLaw, cDel] at kl1
  replace HA := Lib.hid ((HA.out.later hb).push (.cells #[.func (.func 92) #[] #[], .func (.func 93) #[] #[]] 97))
  replace B0 := Lib.hid ((B0.out.later hb).push (.cells #[.func (.func 92) #[] #[], .func (.func 93) #[] #[]] 97))
  replace B1 := Lib.hid ((B1.out.later hb).push (.cells #[.func (.func 92) #[] #[], .func (.func 93) #[] #[]] 97))
  replace U := Lib.hid ((U.out.later hb).push (.cells #[.func (.func 92) #[] #[], .func (.func 93) #[] #[]] 97))
  have BC1 := Lib.hid (Blk.new w1 97 #[.func (.func 92) #[] #[], .func (.func 93) #[] #[]])
  clear C hb
  go_wp2_with fail
  refine (codecs_any _).mono ?_
  rintro e w2 ⟨m2, a2, d2, rfl, C, hb⟩
  have kl2 := (look_codec C 0 (by omega) (by omega)).2
  rw [show cAt a2 d2 0 = cLaw a2 from rfl, show speechB 0 = true from rfl] at kl2
  simp only [cLaw, cDel] at kl2
  have HL2 := Lib.hid (C.l1.push (.cells #[.func (.func 136) #[] #[.pointer (some ⟨a2, 0, none⟩)], .func (.func 138) #[] #[.pointer (some ⟨a2, 0, none⟩)]] 97))
  replace HA := Lib.hid ((HA.out.later hb).push (.cells #[.func (.func 136) #[] #[.pointer (some ⟨a2, 0, none⟩)], .func (.func 138) #[] #[.pointer (some ⟨a2, 0, none⟩)]] 97))
  replace B0 := Lib.hid ((B0.out.later hb).push (.cells #[.func (.func 136) #[] #[.pointer (some ⟨a2, 0, none⟩)], .func (.func 138) #[] #[.pointer (some ⟨a2, 0, none⟩)]] 97))
  replace B1 := Lib.hid ((B1.out.later hb).push (.cells #[.func (.func 136) #[] #[.pointer (some ⟨a2, 0, none⟩)], .func (.func 138) #[] #[.pointer (some ⟨a2, 0, none⟩)]] 97))
  replace U := Lib.hid ((U.out.later hb).push (.cells #[.func (.func 136) #[] #[.pointer (some ⟨a2, 0, none⟩)], .func (.func 138) #[] #[.pointer (some ⟨a2, 0, none⟩)]] 97))
  replace BC1 := Lib.hid ((BC1.out.later hb).push (.cells #[.func (.func 136) #[] #[.pointer (some ⟨a2, 0, none⟩)], .func (.func 138) #[] #[.pointer (some ⟨a2, 0, none⟩)]] 97))
  have BC2 := Lib.hid (Blk.new w2 97 #[.func (.func 136) #[] #[.pointer (some ⟨a2, 0, none⟩)], .func (.func 138) #[] #[.pointer (some ⟨a2, 0, none⟩)]])
  clear C hb
  have y0 := B1.out.at 0 _ rfl
  have y1 := B1.out.at 1 _ rfl
  have yz := B1.out.frozen
  go_wp2_with fail
  have Y1 := (B1.out.set_ 0 (.int .i64 0)).set_ 1 (.int .i64 0)
  refine bodyPost_ret (v := .tuple #[.slice none 0 0, .agg #[.int .i64 0, .int .i64 0], .int .u8 6]) (res_tct Tryz.results8 rfl rfl (run_loadVar_row (P := Tryz.prog) _ _ _ _ _ _ _ Y1 Tryz.underlying24 rfl (by kernel_rfl)) rfl) rfl ⟨none, 0, rfl, IntsAt.nil, below_set_old (below_set_old U.out (by simp) _) (by simp) _⟩
set_option maxRecDepth 100000 in
set_option maxHeartbeats 12800000 in
theorem tr_short_8 (A : Option Addr) (bs : List Int) (c : Nat) (v i : Int) (w : World) (hA : IntsAt w w.heap.size .u8 A bs) (hz : Within 0 255 bs) (h8 : bs.length ≤ 5000) (hc : bs.length ≤ c) (h4 : bs.length < 4) : Calls Tryz.prog 8 #[.int .u8 96, .int .u8 8, .slice A bs.length c, .agg #[.int .i64 v, .int .i64 i]] w (TranR ([], (0, 0), 6) w) := by
  have h4i : (bs.length : Int) < 4 := by omega
  have HA := Lib.hid ((hA.push (.cells #[.int .i64 v, .int .i64 i] 24)).push (.cells #[.int .i64 0, .int .i64 0] 24))
  have B0 := Lib.hid ((Blk.new w 24 #[.int .i64 v, .int .i64 i]).push (.cells #[.int .i64 0, .int .i64 0] 24))
  have B1 := Lib.hid (Blk.new1 w (.cells #[.int .i64 v, .int .i64 i] 24) 24 #[.int .i64 0, .int .i64 0])
  have U := Lib.hid (((Bel.refl w).push (.cells #[.int .i64 v, .int .i64 i] 24)).push (.cells #[.int .i64 0, .int .i64 0] 24))
  clear hA
  go_enter Tryz.func8, Tryz.ntmps8
  go_upto_region 1 with fail
  change Code.wp _ _ _ _ ((w.alloc (Obj.cells #[.int .i64 v, .int .i64 i] 24)).alloc (Obj.cells #[.int .i64 0, .int .i64 0] 24))
  obtain ⟨W, hW⟩ : ∃ W, W = (w.alloc (Obj.cells #[.int .i64 v, .int .i64 i] 24)).alloc (Obj.cells #[.int .i64 0, .int .i64 0] 24) := ⟨_, rfl⟩
  rw [← hW] at HA B0 B1 U ⊢
  clear hW
  go_wp2_with fail
  refine (codecs_any _).mono ?_
  rintro e w1 ⟨m1, a1, d1, rfl, C, hb⟩
  have kl1 := (look_codec C 96 (by omega) (by omega)).2
  rw [show cAt a1 d1 96 = cDel from rfl, show speechB 96 = true from rfl] at kl1
  simp only [cLaw, cDel] at kl1
  replace HA := Lib.hid ((HA.out.later hb).push (.cells #[.func (.func 92) #[] #[], .func (.func 93) #[] #[]] 97))
  replace B0 := Lib.hid ((B0.out.later hb).push (.cells #[.func (.func 92) #[] #[], .func (.func 93) #[] #[]] 97))
  replace B1 := Lib.hid ((B1.out.later hb).push (.cells #[.func (.func 92) #[] #[], .func (.func 93) #[] #[]] 97))
  replace U := Lib.hid ((U.out.later hb).push (.cells #[.func (.func 92) #[] #[], .func (.func 93) #[] #[]] 97))
  have BC1 := Lib.hid (Blk.new w1 97 #[.func (.func 92) #[] #[], .func (.func 93) #[] #[]])
  clear C hb
  go_wp2_with fail
  refine (codecs_any _).mono ?_
  rintro e w2 ⟨m2, a2, d2, rfl, C, hb⟩
  have kl2 := (look_codec C 8 (by omega) (by omega)).2
  rw [show cAt a2 d2 8 = cLaw d2 from rfl, show speechB 8 = true from rfl] at kl2
  simp only [cLaw, cDel] at kl2
  have HL2 := Lib.hid (C.l2.push (.cells #[.func (.func 136) #[] #[.pointer (some ⟨d2, 0, none⟩)], .func (.func 138) #[] #[.pointer (some ⟨d2, 0, none⟩)]] 97))
  replace HA := Lib.hid ((HA.out.later hb).push (.cells #[.func (.func 136) #[] #[.pointer (some ⟨d2, 0, none⟩)], .func (.func 138) #[] #[.pointer (some ⟨d2, 0, none⟩)]] 97))
  replace B0 := Lib.hid ((B0.out.later hb).push (.cells #[.func (.func 136) #[] #[.pointer (some ⟨d2, 0, none⟩)], .func (.func 138) #[] #[.pointer (some ⟨d2, 0, none⟩)]] 97))
  replace B1 := Lib.hid ((B1.out.later hb).push (.cells #[.func (.func 136) #[] #[.pointer (some ⟨d2, 0, none⟩)], .func (.func 138) #[] #[.pointer (some ⟨d2, 0, none⟩)]] 97))
  replace U := Lib.hid ((U.out.later hb).push (.cells #[.func (.func 136) #[] #[.pointer (some ⟨d2, 0, none⟩)], .func (.func 138) #[] #[.pointer (some ⟨d2, 0, none⟩)]] 97))
  replace BC1 := Lib.hid ((BC1.out.later hb).push (.cells #[.func (.func 136) #[] #[.pointer (some ⟨d2, 0, none⟩)], .func (.func 138) #[] #[.pointer (some ⟨d2, 0, none⟩)]] 97))
  have BC2 := Lib.hid (Blk.new w2 97 #[.func (.func 136) #[] #[.pointer (some ⟨d2, 0, none⟩)], .func (.func 138) #[] #[.pointer (some ⟨d2, 0, none⟩)]])
  clear C hb
  have y0 := B1.out.at 0 _ rfl
  have y1 := B1.out.at 1 _ rfl
  have yz := B1.out.frozen
  go_wp2_with fail
  have Y1 := (B1.out.set_ 0 (.int .i64 0)).set_ 1 (.int .i64 0)
  refine bodyPost_ret (v := .tuple #[.slice none 0 0, .agg #[.int .i64 0, .int .i64 0], .int .u8 6]) (res_tct Tryz.results8 rfl rfl (run_loadVar_row (P := Tryz.prog) _ _ _ _ _ _ _ Y1 Tryz.underlying24 rfl (by kernel_rfl)) rfl) rfl ⟨none, 0, rfl, IntsAt.nil, below_set_old (below_set_old U.out (by simp) _) (by simp) _⟩
set_option maxRecDepth 100000 in
set_option maxHeartbeats 12800000 in
theorem tr_short_96 (A : Option Addr) (bs : List Int) (c : Nat) (v i : Int) (w : World) (hA : IntsAt w w.heap.size .u8 A bs) (hz : Within 0 255 bs) (h8 : bs.length ≤ 5000) (hc : bs.length ≤ c) (h4 : bs.length < 4) : Calls Tryz.prog 8 #[.int .u8 96, .int .u8 96, .slice A bs.length c, .agg #[.int .i64 v, .int .i64 i]] w (TranR ([], (0, 0), 6) w) := by
  have h4i : (bs.length : Int) < 4 := by omega
  have HA := Lib.hid ((hA.push (.cells #[.int .i64 v, .int .i64 i] 24)).push (.cells #[.int .i64 0, .int .i64 0] 24))
  have B0 := Lib.hid ((Blk.new w 24 #[.int .i64 v, .int .i64 i]).push (.cells #[.int .i64 0, .int .i64 0] 24))
  have B1 := Lib.hid (Blk.new1 w (.cells #[.int .i64 v, .int .i64 i] 24) 24 #[.int .i64 0, .int .i64 0])
  have U := Lib.hid (((Bel.refl w).push (.cells #[.int .i64 v, .int .i64 i] 24)).push (.cells #[.int .i64 0, .int .i64 0] 24))
  clear hA
  go_enter Tryz.func8, Tryz.ntmps8
  go_upto_region 1 with fail
  change Code.wp _ _ _ _ ((w.alloc (Obj.cells #[.int .i64 v, .int .i64 i] 24)).alloc (Obj.cells #[.int .i64 0, .int .i64 0] 24))
  obtain ⟨W, hW⟩ : ∃ W, W = (w.alloc (Obj.cells #[.int .i64 v, .int .i64 i] 24)).alloc (Obj.cells #[.int .i64 0, .int .i64 0] 24) := ⟨_, rfl⟩
  rw [← hW] at HA B0 B1 U ⊢
  clear hW
  go_wp2_with fail
  refine (codecs_any _).mono ?_
  rintro e w1 ⟨m1, a1, d1, rfl, C, hb⟩
  have kl1 := (look_codec C 96 (by omega) (by omega)).2
  rw [show cAt a1 d1 96 = cDel from rfl, show speechB 96 = true from rfl] at kl1
  simp only [cLaw, cDel] at kl1
  replace HA := Lib.hid ((HA.out.later hb).push (.cells #[.func (.func 92) #[] #[], .func (.func 93) #[] #[]] 97))
  replace B0 := Lib.hid ((B0.out.later hb).push (.cells #[.func (.func 92) #[] #[], .func (.func 93) #[] #[]] 97))
  replace B1 := Lib.hid ((B1.out.later hb).push (.cells #[.func (.func 92) #[] #[], .func (.func 93) #[] #[]] 97))
  replace U := Lib.hid ((U.out.later hb).push (.cells #[.func (.func 92) #[] #[], .func (.func 93) #[] #[]] 97))
  have BC1 := Lib.hid (Blk.new w1 97 #[.func (.func 92) #[] #[], .func (.func 93) #[] #[]])
  clear C hb
  go_wp2_with fail
  refine (codecs_any _).mono ?_
  rintro e w2 ⟨m2, a2, d2, rfl, C, hb⟩
  have kl2 := (look_codec C 96 (by omega) (by omega)).2
  rw [show cAt a2 d2 96 = cDel from rfl, show speechB 96 = true from rfl] at kl2
  simp only [cLaw, cDel] at kl2
  replace HA := Lib.hid ((HA.out.later hb).push (.cells #[.func (.func 92) #[] #[], .func (.func 93) #[] #[]] 97))
  replace B0 := Lib.hid ((B0.out.later hb).push (.cells #[.func (.func 92) #[] #[], .func (.func 93) #[] #[]] 97))
  replace B1 := Lib.hid ((B1.out.later hb).push (.cells #[.func (.func 92) #[] #[], .func (.func 93) #[] #[]] 97))
  replace U := Lib.hid ((U.out.later hb).push (.cells #[.func (.func 92) #[] #[], .func (.func 93) #[] #[]] 97))
  replace BC1 := Lib.hid ((BC1.out.later hb).push (.cells #[.func (.func 92) #[] #[], .func (.func 93) #[] #[]] 97))
  have BC2 := Lib.hid (Blk.new w2 97 #[.func (.func 92) #[] #[], .func (.func 93) #[] #[]])
  clear C hb
  have y0 := B1.out.at 0 _ rfl
  have y1 := B1.out.at 1 _ rfl
  have yz := B1.out.frozen
  go_wp2_with fail
  have Y1 := (B1.out.set_ 0 (.int .i64 0)).set_ 1 (.int .i64 0)
  refine bodyPost_ret (v := .tuple #[.slice none 0 0, .agg #[.int .i64 0, .int .i64 0], .int .u8 6]) (res_tct Tryz.results8 rfl rfl (run_loadVar_row (P := Tryz.prog) _ _ _ _ _ _ _ Y1 Tryz.underlying24 rfl (by kernel_rfl)) rfl) rfl ⟨none, 0, rfl, IntsAt.nil, below_set_old (below_set_old U.out (by simp) _) (by simp) _⟩
set_option maxRecDepth 100000 in
set_option maxHeartbeats 12800000 in
theorem tr_0_0 (A : Option Addr) (bs : List Int) (c : Nat) (v i : Int) (w : World) (hA : IntsAt w w.heap.size .u8 A bs) (hz : Within 0 255 bs) (h8 : bs.length ≤ 5000) (hc : bs.length ≤ c) : Calls Tryz.prog 8 #[.int .u8 0, .int .u8 0, .slice A bs.length c, .agg #[.int .i64 v, .int .i64 i]] w (TranR (Sb.tran 0 0 bs v i) w) := by
  obtain ⟨TT, hTT⟩ : ∃ T, T = Sb.tran 0 0 bs v i := ⟨_, rfl⟩
  rw [← hTT]
  obtain ⟨ZL, hZL⟩ : ∃ Z, Z = bs.map Cmp.fromMuZ := ⟨_, rfl⟩
  have hzi : Within (-32768) 32767 ZL := by rw [hZL]; exact within_map hz fromMuZ_bd
  have hl8 : ZL.length ≤ 8000 := by rw [hZL, List.length_map]; omega
  have kD := Lib.hid fun (b : Nat) (W : World) hW hB => dec_mu (2 * ((bs.length : Int) - 4)) A bs c b W hW hz (by omega) hB
  unfold DecR at kD
  rw [← hZL] at kD
  have e1 : Sb.decE 0 bs (2 * ((bs.length : Int) - 4)) = (ZL, 0) := by unfold Sb.decE; rw [if_pos rfl, hZL]
  obtain ⟨EL, hEL⟩ : ∃ Z, Z = ZL.map Cmp.muZ := ⟨_, rfl⟩
  have kE := Lib.hid fun (A3 : Option Addr) (c3 b : Nat) (W : World) hW hB => enc_mu v i A3 ZL c3 b W hW hzi hl8 hB
  unfold EncR at kE
  rw [← hEL] at kE
  have e2 : Sb.encE 0 v i ZL = (EL, (v, i), 0) := by unfold Sb.encE; rw [if_pos rfl, hEL]
  have HT : Hid (TT = (EL, (v, i), 0)) := Lib.hid (by
    rw [hTT]; unfold Sb.tran
    rw [if_neg (by decide), if_neg (fun h => absurd h.1 (by decide)), e1]
    dsimp only
    rw [if_neg (by simp)]
    rw [e2]
    rw [if_neg (by simp)])
  have hnw : wrap64 (2 * ((bs.length : Int) - 4)) = 2 * ((bs.length : Int) - 4) := IntWalk.wrap64_in _ ⟨by omega, by omega⟩
  clear hz hTT e1 e2 hZL hEL hzi hl8
  have HA := Lib.hid ((hA.push (.cells #[.int .i64 v, .int .i64 i] 24)).push (.cells #[.int .i64 0, .int .i64 0] 24))
  have B0 := Lib.hid ((Blk.new w 24 #[.int .i64 v, .int .i64 i]).push (.cells #[.int .i64 0, .int .i64 0] 24))
  have B1 := Lib.hid (Blk.new1 w (.cells #[.int .i64 v, .int .i64 i] 24) 24 #[.int .i64 0, .int .i64 0])
  have U := Lib.hid (((Bel.refl w).push (.cells #[.int .i64 v, .int .i64 i] 24)).push (.cells #[.int .i64 0, .int .i64 0] 24))
  clear hA
  go_enter Tryz.func8, Tryz.ntmps8
  go_upto_region 1 with fail
  change Code.wp _ _ _ _ ((w.alloc (Obj.cells #[.int .i64 v, .int .i64 i] 24)).alloc (Obj.cells #[.int .i64 0, .int .i64 0] 24))
  obtain ⟨W, hW⟩ : ∃ W, W = (w.alloc (Obj.cells #[.int .i64 v, .int .i64 i] 24)).alloc (Obj.cells #[.int .i64 0, .int .i64 0] 24) := ⟨_, rfl⟩
  rw [← hW] at HA B0 B1 U ⊢
  clear hW
  go_wp2_with fail
  refine (codecs_any _).mono ?_
  rintro e w1 ⟨m1, a1, d1, rfl, C, hb⟩
  have kl1 := (look_codec C 0 (by omega) (by omega)).2
  rw [show cAt a1 d1 0 = cLaw a1 from rfl, show speechB 0 = true from rfl] at kl1
  simp only [cLaw, cDel] at kl1
  have HL1 := Lib.hid (C.l1.push (.cells #[.func (.func 136) #[] #[.pointer (some ⟨a1, 0, none⟩)], .func (.func 138) #[] #[.pointer (some ⟨a1, 0, none⟩)]] 97))
  replace HA := Lib.hid ((HA.out.later hb).push (.cells #[.func (.func 136) #[] #[.pointer (some ⟨a1, 0, none⟩)], .func (.func 138) #[] #[.pointer (some ⟨a1, 0, none⟩)]] 97))
  replace B0 := Lib.hid ((B0.out.later hb).push (.cells #[.func (.func 136) #[] #[.pointer (some ⟨a1, 0, none⟩)], .func (.func 138) #[] #[.pointer (some ⟨a1, 0, none⟩)]] 97))
  replace B1 := Lib.hid ((B1.out.later hb).push (.cells #[.func (.func 136) #[] #[.pointer (some ⟨a1, 0, none⟩)], .func (.func 138) #[] #[.pointer (some ⟨a1, 0, none⟩)]] 97))
  replace U := Lib.hid ((U.out.later hb).push (.cells #[.func (.func 136) #[] #[.pointer (some ⟨a1, 0, none⟩)], .func (.func 138) #[] #[.pointer (some ⟨a1, 0, none⟩)]] 97))
  have BC1 := Lib.hid (Blk.new w1 97 #[.func (.func 136) #[] #[.pointer (some ⟨a1, 0, none⟩)], .func (.func 138) #[] #[.pointer (some ⟨a1, 0, none⟩)]])
  clear C hb
  go_wp2_with fail
  refine (codecs_any _).mono ?_
  rintro e w2 ⟨m2, a2, d2, rfl, C, hb⟩
  have kl2 := (look_codec C 0 (by omega) (by omega)).2
  rw [show cAt a2 d2 0 = cLaw a2 from rfl, show speechB 0 = true from rfl] at kl2
  simp only [cLaw, cDel] at kl2
  have HL2 := Lib.hid (C.l1.push (.cells #[.func (.func 136) #[] #[.pointer (some ⟨a2, 0, none⟩)], .func (.func 138) #[] #[.pointer (some ⟨a2, 0, none⟩)]] 97))
  replace HA := Lib.hid ((HA.out.later hb).push (.cells #[.func (.func 136) #[] #[.pointer (some ⟨a2, 0, none⟩)], .func (.func 138) #[] #[.pointer (some ⟨a2, 0, none⟩)]] 97))
  replace B0 := Lib.hid ((B0.out.later hb).push (.cells #[.func (.func 136) #[] #[.pointer (some ⟨a2, 0, none⟩)], .func (.func 138) #[] #[.pointer (some ⟨a2, 0, none⟩)]] 97))
  replace B1 := Lib.hid ((B1.out.later hb).push (.cells #[.func (.func 136) #[] #[.pointer (some ⟨a2, 0, none⟩)], .func (.func 138) #[] #[.pointer (some ⟨a2, 0, none⟩)]] 97))
  replace U := Lib.hid ((U.out.later hb).push (.cells #[.func (.func 136) #[] #[.pointer (some ⟨a2, 0, none⟩)], .func (.func 138) #[] #[.pointer (some ⟨a2, 0, none⟩)]] 97))
  replace BC1 := Lib.hid ((BC1.out.later hb).push (.cells #[.func (.func 136) #[] #[.pointer (some ⟨a2, 0, none⟩)], .func (.func 138) #[] #[.pointer (some ⟨a2, 0, none⟩)]] 97))
  replace HL1 := Lib.hid ((HL1.out.later hb).push (.cells #[.func (.func 136) #[] #[.pointer (some ⟨a2, 0, none⟩)], .func (.func 138) #[] #[.pointer (some ⟨a2, 0, none⟩)]] 97))
  have BC2 := Lib.hid (Blk.new w2 97 #[.func (.func 136) #[] #[.pointer (some ⟨a2, 0, none⟩)], .func (.func 138) #[] #[.pointer (some ⟨a2, 0, none⟩)]])
  clear C hb
  have bc := BC1.out.at 1 _ rfl
  go_wp2_with fail
  refine (kD.out a1 _ HA.out HL1.out).mono ?_
  rintro e w3 ⟨A3, c3, rfl, hI, hb⟩
  have HI := Lib.hid hI.1
  replace B0 := Lib.hid (B0.out.later hb)
  replace B1 := Lib.hid (B1.out.later hb)
  replace U := Lib.hid (U.out.later hb)
  replace BC2 := Lib.hid (BC2.out.later hb)
  replace HL2 := Lib.hid (HL2.out.later hb)
  clear hI hb HA bc BC1 kD hnw HL1
  have bc0 := BC2.out.at 0 _ rfl
  have s0 := B0.out.at 0 _ rfl
  have s1 := B0.out.at 1 _ rfl
  go_wp2_with fail
  refine (kE.out A3 c3 a2 _ HI.out HL2.out).mono ?_
  rintro e w4 ⟨A4, c4, rfl, hE, hb⟩
  have HE := Lib.hid hE.1
  replace B1 := Lib.hid ((B1.out.later hb).push (.cells #[.int .i64 v, .int .i64 i] 24))
  replace U := Lib.hid ((U.out.later hb).push (.cells #[.int .i64 v, .int .i64 i] 24))
  replace HE := Lib.hid (HE.out.push (.cells #[.int .i64 v, .int .i64 i] 24))
  have BD := Lib.hid (Blk.new w4 24 #[.int .i64 v, .int .i64 i])
  clear hE hb bc0 s0 s1 B0 BC2 kE HI HL2
  have c0 := BD.out.at 0 _ rfl
  have c1 := BD.out.at 1 _ rfl
  have r0 := B1.out.at 0 _ rfl
  have r1 := B1.out.at 1 _ rfl
  have rz := B1.out.frozen
  go_upto_region 13 with fail
  go_region
  have RF := B1.out.set_ 0 (.int .i64 v)
  have RG := RF.set_ 1 (.int .i64 i)
  have q1 := RF.at 1 _ rfl
  have RE := (HE.out.set_ne r0 (by intro z e; cases e) (.int .i64 v)).set_ne q1 (by intro z e; cases e) (.int .i64 i)
  have UF := below_set_old (below_set_old U.out (by simp) (.int .i64 v) (p := ⟨w.heap.size + 1, 0, none⟩)) (by simp) (.int .i64 i) (p := ⟨w.heap.size + 1, 1, none⟩)
  go_wp2_with fail
  rw [HT.out]
  refine bodyPost_ret (v := .tuple #[.slice A4 EL.length c4, .agg #[.int .i64 v, .int .i64 i], .int .u8 0]) (res_tct Tryz.results8 rfl rfl (run_loadVar_row (P := Tryz.prog) _ _ _ _ _ _ _ RG.drew Tryz.underlying24 rfl (by kernel_rfl)) rfl) rfl ⟨A4, c4, rfl, ?_, UF.drew⟩
  exact RE.more (by simp [World.setCell])
set_option maxRecDepth 100000 in
set_option maxHeartbeats 12800000 in
theorem tr_0_8 (A : Option Addr) (bs : List Int) (c : Nat) (v i : Int) (w : World) (hA : IntsAt w w.heap.size .u8 A bs) (hz : Within 0 255 bs) (h8 : bs.length ≤ 5000) (hc : bs.length ≤ c) : Calls Tryz.prog 8 #[.int .u8 0, .int .u8 8, .slice A bs.length c, .agg #[.int .i64 v, .int .i64 i]] w (TranR (Sb.tran 0 8 bs v i) w) := by
  obtain ⟨TT, hTT⟩ : ∃ T, T = Sb.tran 0 8 bs v i := ⟨_, rfl⟩
  rw [← hTT]
  obtain ⟨ZL, hZL⟩ : ∃ Z, Z = bs.map Cmp.fromMuZ := ⟨_, rfl⟩
  have hzi : Within (-32768) 32767 ZL := by rw [hZL]; exact within_map hz fromMuZ_bd
  have hl8 : ZL.length ≤ 8000 := by rw [hZL, List.length_map]; omega
  have kD := Lib.hid fun (b : Nat) (W : World) hW hB => dec_mu (2 * ((bs.length : Int) - 4)) A bs c b W hW hz (by omega) hB
  unfold DecR at kD
  rw [← hZL] at kD
  have e1 : Sb.decE 0 bs (2 * ((bs.length : Int) - 4)) = (ZL, 0) := by unfold Sb.decE; rw [if_pos rfl, hZL]
  obtain ⟨EL, hEL⟩ : ∃ Z, Z = ZL.map Cmp.aZ := ⟨_, rfl⟩
  have kE := Lib.hid fun (A3 : Option Addr) (c3 b : Nat) (W : World) hW hB => enc_a v i A3 ZL c3 b W hW hzi hl8 hB
  unfold EncR at kE
  rw [← hEL] at kE
  have e2 : Sb.encE 8 v i ZL = (EL, (v, i), 0) := by unfold Sb.encE; rw [if_neg (by decide), if_pos rfl, hEL]
  have HT : Hid (TT = (EL, (v, i), 0)) := Lib.hid (by
    rw [hTT]; unfold Sb.tran
    rw [if_neg (by decide), if_neg (fun h => absurd h.1 (by decide)), e1]
    dsimp only
    rw [if_neg (by simp)]
    rw [e2]
    rw [if_neg (by simp)])
  have hnw : wrap64 (2 * ((bs.length : Int) - 4)) = 2 * ((bs.length : Int) - 4) := IntWalk.wrap64_in _ ⟨by omega, by omega⟩
  clear hz hTT e1 e2 hZL hEL hzi hl8
  have HA := Lib.hid ((hA.push (.cells #[.int .i64 v, .int .i64 i] 24)).push (.cells #[.int .i64 0, .int .i64 0] 24))
  have B0 := Lib.hid ((Blk.new w 24 #[.int .i64 v, .int .i64 i]).push (.cells #[.int .i64 0, .int .i64 0] 24))
  have B1 := Lib.hid (Blk.new1 w (.cells #[.int .i64 v, .int .i64 i] 24) 24 #[.int .i64 0, .int .i64 0])
  have U := Lib.hid (((Bel.refl w).push (.cells #[.int .i64 v, .int .i64 i] 24)).push (.cells #[.int .i64 0, .int .i64 0] 24))
  clear hA
  go_enter Tryz.func8, Tryz.ntmps8
  go_upto_region 1 with fail
  change Code.wp _ _ _ _ ((w.alloc (Obj.cells #[.int .i64 v, .int .i64 i] 24)).alloc (Obj.cells #[.int .i64 0, .int .i64 0] 24))
  obtain ⟨W, hW⟩ : ∃ W, W = (w.alloc (Obj.cells #[.int .i64 v, .int .i64 i] 24)).alloc (Obj.cells #[.int .i64 0, .int .i64 0] 24) := ⟨_, rfl⟩
  rw [← hW] at HA B0 B1 U ⊢
  clear hW
  go_wp2_with fail
  refine (codecs_any _).mono ?_
  rintro e w1 ⟨m1, a1, d1, rfl, C, hb⟩
  have kl1 := (look_codec C 0 (by omega) (by omega)).2
  rw [show cAt a1 d1 0 = cLaw a1 from rfl, show speechB 0 = true from rfl] at kl1
  simp only [cLaw, cDel] at kl1
  have HL1 := Lib.hid (C.l1.push (.cells #[.func (.func 136) #[] #[.pointer (some ⟨a1, 0, none⟩)], .func (.func 138) #[] #[.pointer (some ⟨a1, 0, none⟩)]] 97))
  replace HA := Lib.hid ((HA.out.later hb).push (.cells #[.func (.func 136) #[] #[.pointer (some ⟨a1, 0, none⟩)], .func (.func 138) #[] #[.pointer (some ⟨a1, 0, none⟩)]] 97))
  replace B0 := Lib.hid ((B0.out.later hb).push (.cells #[.func (.func 136) #[] #[.pointer (some ⟨a1, 0, none⟩)], .func (.func 138) #[] #[.pointer (some ⟨a1, 0, none⟩)]] 97))
  replace B1 := Lib.hid ((B1.out.later hb).push (.cells #[.func (.func 136) #[] #[.pointer (some ⟨a1, 0, none⟩)], .func (.func 138) #[] #[.pointer (some ⟨a1, 0, none⟩)]] 97))
  replace U := Lib.hid ((U.out.later hb).push (.cells #[.func (.func 136) #[] #[.pointer (some ⟨a1, 0, none⟩)], .func (.func 138) #[] #[.pointer (some ⟨a1, 0, none⟩)]] 97))
  have BC1 := Lib.hid (Blk.new w1 97 #[.func (.func 136) #[] #[.pointer (some ⟨a1, 0, none⟩)], .func (.func 138) #[] #[.pointer (some ⟨a1, 0, none⟩)]])
  clear C hb
  go_wp2_with fail
  refine (codecs_any _).mono ?_
  rintro e w2 ⟨m2, a2, d2, rfl, C, hb⟩
  have kl2 := (look_codec C 8 (by omega) (by omega)).2
  rw [show cAt a2 d2 8 = cLaw d2 from rfl, show speechB 8 = true from rfl] at kl2
  simp only [cLaw, cDel] at kl2
  have HL2 := Lib.hid (C.l2.push (.cells #[.func (.func 136) #[] #[.pointer (some ⟨d2, 0, none⟩)], .func (.func 138) #[] #[.pointer (some ⟨d2, 0, none⟩)]] 97))
  replace HA := Lib.hid ((HA.out.later hb).push (.cells #[.func (.func 136) #[] #[.pointer (some ⟨d2, 0, none⟩)], .func (.func 138) #[] #[.pointer (some ⟨d2, 0, none⟩)]] 97))
  replace B0 := Lib.hid ((B0.out.later hb).push (.cells #[.func (.func 136) #[] #[.pointer (some ⟨d2, 0, none⟩)], .func (.func 138) #[] #[.pointer (some ⟨d2, 0, none⟩)]] 97))
  replace B1 := Lib.hid ((B1.out.later hb).push (.cells #[.func (.func 136) #[] #[.pointer (some ⟨d2, 0, none⟩)], .func (.func 138) #[] #[.pointer (some ⟨d2, 0, none⟩)]] 97))
  replace U := Lib.hid ((U.out.later hb).push (.cells #[.func (.func 136) #[] #[.pointer (some ⟨d2, 0, none⟩)], .func (.func 138) #[] #[.pointer (some ⟨d2, 0, none⟩)]] 97))
  replace BC1 := Lib.hid ((BC1.out.later hb).push (.cells #[.func (.func 136) #[] #[.pointer (some ⟨d2, 0, none⟩)], .func (.func 138) #[] #[.pointer (some ⟨d2, 0, none⟩)]] 97))
  replace HL1 := Lib.hid ((HL1.out.later hb).push (.cells #[.func (.func 136) #[] #[.pointer (some ⟨d2, 0, none⟩)], .func (.func 138) #[] #[.pointer (some ⟨d2, 0, none⟩)]] 97))
  have BC2 := Lib.hid (Blk.new w2 97 #[.func (.func 136) #[] #[.pointer (some ⟨d2, 0, none⟩)], .func (.func 138) #[] #[.pointer (some ⟨d2, 0, none⟩)]])
  clear C hb
  have bc := BC1.out.at 1 _ rfl
  go_wp2_with fail
  refine (kD.out a1 _ HA.out HL1.out).mono ?_
  rintro e w3 ⟨A3, c3, rfl, hI, hb⟩
  have HI := Lib.hid hI.1
  replace B0 := Lib.hid (B0.out.later hb)
  replace B1 := Lib.hid (B1.out.later hb)
  replace U := Lib.hid (U.out.later hb)
  replace BC2 := Lib.hid (BC2.out.later hb)
  replace HL2 := Lib.hid (HL2.out.later hb)
  clear hI hb HA bc BC1 kD hnw HL1
  have bc0 := BC2.out.at 0 _ rfl
  have s0 := B0.out.at 0 _ rfl
  have s1 := B0.out.at 1 _ rfl
  go_wp2_with fail
  refine (kE.out A3 c3 d2 _ HI.out HL2.out).mono ?_
  rintro e w4 ⟨A4, c4, rfl, hE, hb⟩
  have HE := Lib.hid hE.1
  replace B1 := Lib.hid ((B1.out.later hb).push (.cells #[.int .i64 v, .int .i64 i] 24))
  replace U := Lib.hid ((U.out.later hb).push (.cells #[.int .i64 v, .int .i64 i] 24))
  replace HE := Lib.hid (HE.out.push (.cells #[.int .i64 v, .int .i64 i] 24))
  have BD := Lib.hid (Blk.new w4 24 #[.int .i64 v, .int .i64 i])
  clear hE hb bc0 s0 s1 B0 BC2 kE HI HL2
  have c0 := BD.out.at 0 _ rfl
  have c1 := BD.out.at 1 _ rfl
  have r0 := B1.out.at 0 _ rfl
  have r1 := B1.out.at 1 _ rfl
  have rz := B1.out.frozen
  go_upto_region 13 with fail
  go_region
  have RF := B1.out.set_ 0 (.int .i64 v)
  have RG := RF.set_ 1 (.int .i64 i)
  have q1 := RF.at 1 _ rfl
  have RE := (HE.out.set_ne r0 (by intro z e; cases e) (.int .i64 v)).set_ne q1 (by intro z e; cases e) (.int .i64 i)
  have UF := below_set_old (below_set_old U.out (by simp) (.int .i64 v) (p := ⟨w.heap.size + 1, 0, none⟩)) (by simp) (.int .i64 i) (p := ⟨w.heap.size + 1, 1, none⟩)
  go_wp2_with fail
  rw [HT.out]
  refine bodyPost_ret (v := .tuple #[.slice A4 EL.length c4, .agg #[.int .i64 v, .int .i64 i], .int .u8 0]) (res_tct Tryz.results8 rfl rfl (run_loadVar_row (P := Tryz.prog) _ _ _ _ _ _ _ RG.drew Tryz.underlying24 rfl (by kernel_rfl)) rfl) rfl ⟨A4, c4, rfl, ?_, UF.drew⟩
  exact RE.more (by simp [World.setCell])
set_option maxRecDepth 100000 in
set_option maxHeartbeats 12800000 in
theorem tr_0_96 (A : Option Addr) (bs : List Int) (c : Nat) (v i : Int) (w : World) (hA : IntsAt w w.heap.size .u8 A bs) (hz : Within 0 255 bs) (h8 : bs.length ≤ 5000) (hc : bs.length ≤ c) : Calls Tryz.prog 8 #[.int .u8 0, .int .u8 96, .slice A bs.length c, .agg #[.int .i64 v, .int .i64 i]] w (TranR (Sb.tran 0 96 bs v i) w) := by
  obtain ⟨TT, hTT⟩ : ∃ T, T = Sb.tran 0 96 bs v i := ⟨_, rfl⟩
  rw [← hTT]
  obtain ⟨ZL, hZL⟩ : ∃ Z, Z = bs.map Cmp.fromMuZ := ⟨_, rfl⟩
  have hzi : Within (-32768) 32767 ZL := by rw [hZL]; exact within_map hz fromMuZ_bd
  have hl8 : ZL.length ≤ 8000 := by rw [hZL, List.length_map]; omega
  have kD := Lib.hid fun (b : Nat) (W : World) hW hB => dec_mu (2 * ((bs.length : Int) - 4)) A bs c b W hW hz (by omega) hB
  unfold DecR at kD
  rw [← hZL] at kD
  have e1 : Sb.decE 0 bs (2 * ((bs.length : Int) - 4)) = (ZL, 0) := by unfold Sb.decE; rw [if_pos rfl, hZL]
  have kE := Lib.hid fun (A3 : Option Addr) (c3 : Nat) (W : World) hW => Pack_any v i W A3 ZL c3 hW hzi
  obtain ⟨P, hP⟩ : ∃ P, P = Dlt.packR v i ZL := ⟨_, rfl⟩
  rw [← hP] at kE
  have HP := Lib.hid hP
  clear hP
  obtain ⟨EL, P2, P3, P4⟩ := P
  dsimp only at kE
  have e2 : Sb.encE 96 v i ZL = (EL, (P2, P3), P4) := by unfold Sb.encE; rw [if_neg (by decide), if_neg (by decide), ← HP.out]
  have HT : Hid (TT = if P4 ≠ 0 then ([], (0, 0), P4) else (EL, (P2, P3), P4)) := Lib.hid (by
    rw [hTT]; unfold Sb.tran
    rw [if_neg (by decide), if_neg (fun h => absurd h.1 (by decide)), e1]
    dsimp only
    rw [if_neg (by simp)]
    rw [e2])
  have hnw : wrap64 (2 * ((bs.length : Int) - 4)) = 2 * ((bs.length : Int) - 4) := IntWalk.wrap64_in _ ⟨by omega, by omega⟩
  clear hz hTT e1 e2 hZL hzi hl8
  have HA := Lib.hid ((hA.push (.cells #[.int .i64 v, .int .i64 i] 24)).push (.cells #[.int .i64 0, .int .i64 0] 24))
  have B0 := Lib.hid ((Blk.new w 24 #[.int .i64 v, .int .i64 i]).push (.cells #[.int .i64 0, .int .i64 0] 24))
  have B1 := Lib.hid (Blk.new1 w (.cells #[.int .i64 v, .int .i64 i] 24) 24 #[.int .i64 0, .int .i64 0])
  have U := Lib.hid (((Bel.refl w).push (.cells #[.int .i64 v, .int .i64 i] 24)).push (.cells #[.int .i64 0, .int .i64 0] 24))
  clear hA
  go_enter Tryz.func8, Tryz.ntmps8
  go_upto_region 1 with fail
  change Code.wp _ _ _ _ ((w.alloc (Obj.cells #[.int .i64 v, .int .i64 i] 24)).alloc (Obj.cells #[.int .i64 0, .int .i64 0] 24))
  obtain ⟨W, hW⟩ : ∃ W, W = (w.alloc (Obj.cells #[.int .i64 v, .int .i64 i] 24)).alloc (Obj.cells #[.int .i64 0, .int .i64 0] 24) := ⟨_, rfl⟩
  rw [← hW] at HA B0 B1 U ⊢
  clear hW
  go_wp2_with fail
  refine (codecs_any _).mono ?_
  rintro e w1 ⟨m1, a1, d1, rfl, C, hb⟩
  have kl1 := (look_codec C 0 (by omega) (by omega)).2
  rw [show cAt a1 d1 0 = cLaw a1 from rfl, show speechB 0 = true from rfl] at kl1
  simp only [cLaw, cDel] at kl1
  have HL1 := Lib.hid (C.l1.push (.cells #[.func (.func 136) #[] #[.pointer (some ⟨a1, 0, none⟩)], .func (.func 138) #[] #[.pointer (some ⟨a1, 0, none⟩)]] 97))
  replace HA := Lib.hid ((HA.out.later hb).push (.cells #[.func (.func 136) #[] #[.pointer (some ⟨a1, 0, none⟩)], .func (.func 138) #[] #[.pointer (some ⟨a1, 0, none⟩)]] 97))
  replace B0 := Lib.hid ((B0.out.later hb).push (.cells #[.func (.func 136) #[] #[.pointer (some ⟨a1, 0, none⟩)], .func (.func 138) #[] #[.pointer (some ⟨a1, 0, none⟩)]] 97))
  replace B1 := Lib.hid ((B1.out.later hb).push (.cells #[.func (.func 136) #[] #[.pointer (some ⟨a1, 0, none⟩)], .func (.func 138) #[] #[.pointer (some ⟨a1, 0, none⟩)]] 97))
  replace U := Lib.hid ((U.out.later hb).push (.cells #[.func (.func 136) #[] #[.pointer (some ⟨a1, 0, none⟩)], .func (.func 138) #[] #[.pointer (some ⟨a1, 0, none⟩)]] 97))
  have BC1 := Lib.hid (Blk.new w1 97 #[.func (.func 136) #[] #[.pointer (some ⟨a1, 0, none⟩)], .func (.func 138) #[] #[.pointer (some ⟨a1, 0, none⟩)]])
  clear C hb
  go_wp2_with fail
  refine (codecs_any _).mono ?_
  rintro e w2 ⟨m2, a2, d2, rfl, C, hb⟩
  have kl2 := (look_codec C 96 (by omega) (by omega)).2
  rw [show cAt a2 d2 96 = cDel from rfl, show speechB 96 = true from rfl] at kl2
  simp only [cLaw, cDel] at kl2
  replace HA := Lib.hid ((HA.out.later hb).push (.cells #[.func (.func 92) #[] #[], .func (.func 93) #[] #[]] 97))
  replace B0 := Lib.hid ((B0.out.later hb).push (.cells #[.func (.func 92) #[] #[], .func (.func 93) #[] #[]] 97))
  replace B1 := Lib.hid ((B1.out.later hb).push (.cells #[.func (.func 92) #[] #[], .func (.func 93) #[] #[]] 97))
  replace U := Lib.hid ((U.out.later hb).push (.cells #[.func (.func 92) #[] #[], .func (.func 93) #[] #[]] 97))
  replace BC1 := Lib.hid ((BC1.out.later hb).push (.cells #[.func (.func 92) #[] #[], .func (.func 93) #[] #[]] 97))
  replace HL1 := Lib.hid ((HL1.out.later hb).push (.cells #[.func (.func 92) #[] #[], .func (.func 93) #[] #[]] 97))
  have BC2 := Lib.hid (Blk.new w2 97 #[.func (.func 92) #[] #[], .func (.func 93) #[] #[]])
  clear C hb
  have bc := BC1.out.at 1 _ rfl
  go_wp2_with fail
  refine (kD.out a1 _ HA.out HL1.out).mono ?_
  rintro e w3 ⟨A3, c3, rfl, hI, hb⟩
  have HI := Lib.hid hI.1
  replace B0 := Lib.hid (B0.out.later hb)
  replace B1 := Lib.hid (B1.out.later hb)
  replace U := Lib.hid (U.out.later hb)
  replace BC2 := Lib.hid (BC2.out.later hb)
  clear hI hb HA bc BC1 kD hnw HL1
  have bc0 := BC2.out.at 0 _ rfl
  have s0 := B0.out.at 0 _ rfl
  have s1 := B0.out.at 1 _ rfl
  go_wp2_with fail
  refine (kE.out A3 c3 _ HI.out).mono ?_
  rintro e w4 ⟨A4, c4, rfl, hE, hb⟩
  have HE := Lib.hid hE
  replace B1 := Lib.hid ((B1.out.later hb).push (.cells #[.int .i64 P2, .int .i64 P3] 24))
  replace U := Lib.hid ((U.out.later hb).push (.cells #[.int .i64 P2, .int .i64 P3] 24))
  replace HE := Lib.hid (HE.out.push (.cells #[.int .i64 P2, .int .i64 P3] 24))
  have BD := Lib.hid (Blk.new w4 24 #[.int .i64 P2, .int .i64 P3])
  clear hE hb bc0 s0 s1 B0 BC2 kE HI
  by_cases hp4 : P4 = 0
  rotate_left
  · have e3 := HT.out
    rw [if_pos hp4] at e3
    subst e3
    clear HT
    have y0 := B1.out.at 0 _ rfl
    have y1 := B1.out.at 1 _ rfl
    have yz := B1.out.frozen
    go_wp2_with fail
    have Y1 := (B1.out.set_ 0 (.int .i64 0)).set_ 1 (.int .i64 0)
    refine bodyPost_ret (v := .tuple #[.slice none 0 0, .agg #[.int .i64 0, .int .i64 0], .int .u8 P4]) (res_tct Tryz.results8 rfl rfl (run_loadVar_row (P := Tryz.prog) _ _ _ _ _ _ _ Y1 Tryz.underlying24 rfl (by kernel_rfl)) rfl) rfl ⟨none, 0, rfl, IntsAt.nil, below_set_old (below_set_old U.out (by simp) _) (by simp) _⟩
  subst hp4
  replace HT := Lib.hid (HT.out.trans (if_neg (by simp)))
  have c0 := BD.out.at 0 _ rfl
  have c1 := BD.out.at 1 _ rfl
  have r0 := B1.out.at 0 _ rfl
  have r1 := B1.out.at 1 _ rfl
  have rz := B1.out.frozen
  go_upto_region 13 with fail
  go_region
  have RF := B1.out.set_ 0 (.int .i64 P2)
  have RG := RF.set_ 1 (.int .i64 P3)
  have q1 := RF.at 1 _ rfl
  have RE := (HE.out.set_ne r0 (by intro z e; cases e) (.int .i64 P2)).set_ne q1 (by intro z e; cases e) (.int .i64 P3)
  have UF := below_set_old (below_set_old U.out (by simp) (.int .i64 P2) (p := ⟨w.heap.size + 1, 0, none⟩)) (by simp) (.int .i64 P3) (p := ⟨w.heap.size + 1, 1, none⟩)
  go_wp2_with fail
  rw [HT.out]
  refine bodyPost_ret (v := .tuple #[.slice A4 EL.length c4, .agg #[.int .i64 P2, .int .i64 P3], .int .u8 0]) (res_tct Tryz.results8 rfl rfl (run_loadVar_row (P := Tryz.prog) _ _ _ _ _ _ _ RG.drew Tryz.underlying24 rfl (by kernel_rfl)) rfl) rfl ⟨A4, c4, rfl, ?_, UF.drew⟩
  exact RE.more (by simp [World.setCell])
set_option maxRecDepth 100000 in
set_option maxHeartbeats 12800000 in
theorem tr_8_0 (A : Option Addr) (bs : List Int) (c : Nat) (v i : Int) (w : World) (hA : IntsAt w w.heap.size .u8 A bs) (hz : Within 0 255 bs) (h8 : bs.length ≤ 5000) (hc : bs.length ≤ c) : Calls Tryz.prog 8 #[.int .u8 8, .int .u8 0, .slice A bs.length c, .agg #[.int .i64 v, .int .i64 i]] w (TranR (Sb.tran 8 0 bs v i) w) := by
  obtain ⟨TT, hTT⟩ : ∃ T, T = Sb.tran 8 0 bs v i := ⟨_, rfl⟩
  rw [← hTT]
  obtain ⟨ZL, hZL⟩ : ∃ Z, Z = bs.map Cmp.fromAZ := ⟨_, rfl⟩
  have hzi : Within (-32768) 32767 ZL := by rw [hZL]; exact within_map hz fromAZ_bd
  have hl8 : ZL.length ≤ 8000 := by rw [hZL, List.length_map]; omega
  have kD := Lib.hid fun (b : Nat) (W : World) hW hB => dec_a (2 * ((bs.length : Int) - 4)) A bs c b W hW hz (by omega) hB
  unfold DecR at kD
  rw [← hZL] at kD
  have e1 : Sb.decE 8 bs (2 * ((bs.length : Int) - 4)) = (ZL, 0) := by unfold Sb.decE; rw [if_neg (by decide), if_pos rfl, hZL]
  obtain ⟨EL, hEL⟩ : ∃ Z, Z = ZL.map Cmp.muZ := ⟨_, rfl⟩
  have kE := Lib.hid fun (A3 : Option Addr) (c3 b : Nat) (W : World) hW hB => enc_mu v i A3 ZL c3 b W hW hzi hl8 hB
  unfold EncR at kE
  rw [← hEL] at kE
  have e2 : Sb.encE 0 v i ZL = (EL, (v, i), 0) := by unfold Sb.encE; rw [if_pos rfl, hEL]
  have HT : Hid (TT = (EL, (v, i), 0)) := Lib.hid (by
    rw [hTT]; unfold Sb.tran
    rw [if_neg (by decide), if_neg (fun h => absurd h.1 (by decide)), e1]
    dsimp only
    rw [if_neg (by simp)]
    rw [e2]
    rw [if_neg (by simp)])
  have hnw : wrap64 (2 * ((bs.length : Int) - 4)) = 2 * ((bs.length : Int) - 4) := IntWalk.wrap64_in _ ⟨by omega, by omega⟩
  clear hz hTT e1 e2 hZL hEL hzi hl8
  have HA := Lib.hid ((hA.push (.cells #[.int .i64 v, .int .i64 i] 24)).push (.cells #[.int .i64 0, .int .i64 0] 24))
  have B0 := Lib.hid ((Blk.new w 24 #[.int .i64 v, .int .i64 i]).push (.cells #[.int .i64 0, .int .i64 0] 24))
  have B1 := Lib.hid (Blk.new1 w (.cells #[.int .i64 v, .int .i64 i] 24) 24 #[.int .i64 0, .int .i64 0])
  have U := Lib.hid (((Bel.refl w).push (.cells #[.int .i64 v, .int .i64 i] 24)).push (.cells #[.int .i64 0, .int .i64 0] 24))
  clear hA
  go_enter Tryz.func8, Tryz.ntmps8
  go_upto_region 1 with fail
  change Code.wp _ _ _ _ ((w.alloc (Obj.cells #[.int .i64 v, .int .i64 i] 24)).alloc (Obj.cells #[.int .i64 0, .int .i64 0] 24))
  obtain ⟨W, hW⟩ : ∃ W, W = (w.alloc (Obj.cells #[.int .i64 v, .int .i64 i] 24)).alloc (Obj.cells #[.int .i64 0, .int .i64 0] 24) := ⟨_, rfl⟩
  rw [← hW] at HA B0 B1 U ⊢
  clear hW
  go_wp2_with fail
  refine (codecs_any _).mono ?_
  rintro e w1 ⟨m1, a1, d1, rfl, C, hb⟩
  have kl1 := (look_codec C 8 (by omega) (by omega)).2
  rw [show cAt a1 d1 8 = cLaw d1 from rfl, show speechB 8 = true from rfl] at kl1
  simp only [cLaw, cDel] at kl1
  have HL1 := Lib.hid (C.l2.push (.cells #[.func (.func 136) #[] #[.pointer (some ⟨d1, 0, none⟩)], .func (.func 138) #[] #[.pointer (some ⟨d1, 0, none⟩)]] 97))
  replace HA := Lib.hid ((HA.out.later hb).push (.cells #[.func (.func 136) #[] #[.pointer (some ⟨d1, 0, none⟩)], .func (.func 138) #[] #[.pointer (some ⟨d1, 0, none⟩)]] 97))
  replace B0 := Lib.hid ((B0.out.later hb).push (.cells #[.func (.func 136) #[] #[.pointer (some ⟨d1, 0, none⟩)], .func (.func 138) #[] #[.pointer (some ⟨d1, 0, none⟩)]] 97))
  replace B1 := Lib.hid ((B1.out.later hb).push (.cells #[.func (.func 136) #[] #[.pointer (some ⟨d1, 0, none⟩)], .func (.func 138) #[] #[.pointer (some ⟨d1, 0, none⟩)]] 97))
  replace U := Lib.hid ((U.out.later hb).push (.cells #[.func (.func 136) #[] #[.pointer (some ⟨d1, 0, none⟩)], .func (.func 138) #[] #[.pointer (some ⟨d1, 0, none⟩)]] 97))
  have BC1 := Lib.hid (Blk.new w1 97 #[.func (.func 136) #[] #[.pointer (some ⟨d1, 0, none⟩)], .func (.func 138) #[] #[.pointer (some ⟨d1, 0, none⟩)]])
  clear C hb
  go_wp2_with fail
  refine (codecs_any _).mono ?_
  rintro e w2 ⟨m2, a2, d2, rfl, C, hb⟩
  have kl2 := (look_codec C 0 (by omega) (by omega)).2
  rw [show cAt a2 d2 0 = cLaw a2 from rfl, show speechB 0 = true from rfl] at kl2
  simp only [cLaw, cDel] at kl2
  have HL2 := Lib.hid (C.l1.push (.cells #[.func (.func 136) #[] #[.pointer (some ⟨a2, 0, none⟩)], .func (.func 138) #[] #[.pointer (some ⟨a2, 0, none⟩)]] 97))
  replace HA := Lib.hid ((HA.out.later hb).push (.cells #[.func (.func 136) #[] #[.pointer (some ⟨a2, 0, none⟩)], .func (.func 138) #[] #[.pointer (some ⟨a2, 0, none⟩)]] 97))
  replace B0 := Lib.hid ((B0.out.later hb).push (.cells #[.func (.func 136) #[] #[.pointer (some ⟨a2, 0, none⟩)], .func (.func 138) #[] #[.pointer (some ⟨a2, 0, none⟩)]] 97))
  replace B1 := Lib.hid ((B1.out.later hb).push (.cells #[.func (.func 136) #[] #[.pointer (some ⟨a2, 0, none⟩)], .func (.func 138) #[] #[.pointer (some ⟨a2, 0, none⟩)]] 97))
  replace U := Lib.hid ((U.out.later hb).push (.cells #[.func (.func 136) #[] #[.pointer (some ⟨a2, 0, none⟩)], .func (.func 138) #[] #[.pointer (some ⟨a2, 0, none⟩)]] 97))
  replace BC1 := Lib.hid ((BC1.out.later hb).push (.cells #[.func (.func 136) #[] #[.pointer (some ⟨a2, 0, none⟩)], .func (.func 138) #[] #[.pointer (some ⟨a2, 0, none⟩)]] 97))
  replace HL1 := Lib.hid ((HL1.out.later hb).push (.cells #[.func (.func 136) #[] #[.pointer (some ⟨a2, 0, none⟩)], .func (.func 138) #[] #[.pointer (some ⟨a2, 0, none⟩)]] 97))
  have BC2 := Lib.hid (Blk.new w2 97 #[.func (.func 136) #[] #[.pointer (some ⟨a2, 0, none⟩)], .func (.func 138) #[] #[.pointer (some ⟨a2, 0, none⟩)]])
  clear C hb
  have bc := BC1.out.at 1 _ rfl
  go_wp2_with fail
  refine (kD.out d1 _ HA.out HL1.out).mono ?_
  rintro e w3 ⟨A3, c3, rfl, hI, hb⟩
  have HI := Lib.hid hI.1
  replace B0 := Lib.hid (B0.out.later hb)
  replace B1 := Lib.hid (B1.out.later hb)
  replace U := Lib.hid (U.out.later hb)
  replace BC2 := Lib.hid (BC2.out.later hb)
  replace HL2 := Lib.hid (HL2.out.later hb)
  clear hI hb HA bc BC1 kD hnw HL1
  have bc0 := BC2.out.at 0 _ rfl
  have s0 := B0.out.at 0 _ rfl
  have s1 := B0.out.at 1 _ rfl
  go_wp2_with fail
  refine (kE.out A3 c3 a2 _ HI.out HL2.out).mono ?_
  rintro e w4 ⟨A4, c4, rfl, hE, hb⟩
  have HE := Lib.hid hE.1
  replace B1 := Lib.hid ((B1.out.later hb).push (.cells #[.int .i64 v, .int .i64 i] 24))
  replace U := Lib.hid ((U.out.later hb).push (.cells #[.int .i64 v, .int .i64 i] 24))
  replace HE := Lib.hid (HE.out.push (.cells #[.int .i64 v, .int .i64 i] 24))
  have BD := Lib.hid (Blk.new w4 24 #[.int .i64 v, .int .i64 i])
  clear hE hb bc0 s0 s1 B0 BC2 kE HI HL2
  have c0 := BD.out.at 0 _ rfl
  have c1 := BD.out.at 1 _ rfl
  have r0 := B1.out.at 0 _ rfl
  have r1 := B1.out.at 1 _ rfl
  have rz := B1.out.frozen
  go_upto_region 13 with fail
  go_region
  have RF := B1.out.set_ 0 (.int .i64 v)
  have RG := RF.set_ 1 (.int .i64 i)
  have q1 := RF.at 1 _ rfl
  have RE := (HE.out.set_ne r0 (by intro z e; cases e) (.int .i64 v)).set_ne q1 (by intro z e; cases e) (.int .i64 i)
  have UF := below_set_old (below_set_old U.out (by simp) (.int .i64 v) (p := ⟨w.heap.size + 1, 0, none⟩)) (by simp) (.int .i64 i) (p := ⟨w.heap.size + 1, 1, none⟩)
  go_wp2_with fail
  rw [HT.out]
  refine bodyPost_ret (v := .tuple #[.slice A4 EL.length c4, .agg #[.int .i64 v, .int .i64 i], .int .u8 0]) (res_tct Tryz.results8 rfl rfl (run_loadVar_row (P := Tryz.prog) _ _ _ _ _ _ _ RG.drew Tryz.underlying24 rfl (by kernel_rfl)) rfl) rfl ⟨A4, c4, rfl, ?_, UF.drew⟩
  exact RE.more (by simp [World.setCell])
set_option maxRecDepth 100000 in
set_option maxHeartbeats 12800000 in
theorem tr_8_8 (A : Option Addr) (bs : List Int) (c : Nat) (v i : Int) (w : World) (hA : IntsAt w w.heap.size .u8 A bs) (hz : Within 0 255 bs) (h8 : bs.length ≤ 5000) (hc : bs.length ≤ c) : Calls Tryz.prog 8 #[.int .u8 8, .int .u8 8, .slice A bs.length c, .agg #[.int .i64 v, .int .i64 i]] w (TranR (Sb.tran 8 8 bs v i) w) := by
  obtain ⟨TT, hTT⟩ : ∃ T, T = Sb.tran 8 8 bs v i := ⟨_, rfl⟩
  rw [← hTT]
  obtain ⟨ZL, hZL⟩ : ∃ Z, Z = bs.map Cmp.fromAZ := ⟨_, rfl⟩
  have hzi : Within (-32768) 32767 ZL := by rw [hZL]; exact within_map hz fromAZ_bd
  have hl8 : ZL.length ≤ 8000 := by rw [hZL, List.length_map]; omega
  have kD := Lib.hid fun (b : Nat) (W : World) hW hB => dec_a (2 * ((bs.length : Int) - 4)) A bs c b W hW hz (by omega) hB
  unfold DecR at kD
  rw [← hZL] at kD
  have e1 : Sb.decE 8 bs (2 * ((bs.length : Int) - 4)) = (ZL, 0) := by unfold Sb.decE; rw [if_neg (by decide), if_pos rfl, hZL]
  obtain ⟨EL, hEL⟩ : ∃ Z, Z = ZL.map Cmp.aZ := ⟨_, rfl⟩
  have kE := Lib.hid fun (A3 : Option Addr) (c3 b : Nat) (W : World) hW hB => enc_a v i A3 ZL c3 b W hW hzi hl8 hB
  unfold EncR at kE
  rw [← hEL] at kE
  have e2 : Sb.encE 8 v i ZL = (EL, (v, i), 0) := by unfold Sb.encE; rw [if_neg (by decide), if_pos rfl, hEL]
  have HT : Hid (TT = (EL, (v, i), 0)) := Lib.hid (by
    rw [hTT]; unfold Sb.tran
    rw [if_neg (by decide), if_neg (fun h => absurd h.1 (by decide)), e1]
    dsimp only
    rw [if_neg (by simp)]
    rw [e2]
    rw [if_neg (by simp)])
  have hnw : wrap64 (2 * ((bs.length : Int) - 4)) = 2 * ((bs.length : Int) - 4) := IntWalk.wrap64_in _ ⟨by omega, by omega⟩
  clear hz hTT e1 e2 hZL hEL hzi hl8
  have HA := Lib.hid ((hA.push (.cells #[.int .i64 v, .int .i64 i] 24)).push (.cells #[.int .i64 0, .int .i64 0] 24))
  have B0 := Lib.hid ((Blk.new w 24 #[.int .i64 v, .int .i64 i]).push (.cells #[.int .i64 0, .int .i64 0] 24))
  have B1 := Lib.hid (Blk.new1 w (.cells #[.int .i64 v, .int .i64 i] 24) 24 #[.int .i64 0, .int .i64 0])
  have U := Lib.hid (((Bel.refl w).push (.cells #[.int .i64 v, .int .i64 i] 24)).push (.cells #[.int .i64 0, .int .i64 0] 24))
  clear hA
  go_enter Tryz.func8, Tryz.ntmps8
  go_upto_region 1 with fail
  change Code.wp _ _ _ _ ((w.alloc (Obj.cells #[.int .i64 v, .int .i64 i] 24)).alloc (Obj.cells #[.int .i64 0, .int .i64 0] 24))
  obtain ⟨W, hW⟩ : ∃ W, W = (w.alloc (Obj.cells #[.int .i64 v, .int .i64 i] 24)).alloc (Obj.cells #[.int .i64 0, .int .i64 0] 24) := ⟨_, rfl⟩
  rw [← hW] at HA B0 B1 U ⊢
  clear hW
  go_wp2_with fail
  refine (codecs_any _).mono ?_
  rintro e w1 ⟨m1, a1, d1, rfl, C, hb⟩
  have kl1 := (look_codec C 8 (by omega) (by omega)).2
  rw [show cAt a1 d1 8 = cLaw d1 from rfl, show speechB 8 = true from rfl] at kl1
  simp only [cLaw, cDel] at kl1
  have HL1 := Lib.hid (C.l2.push (.cells #[.func (.func 136) #[] #[.pointer (some ⟨d1, 0, none⟩)], .func (.func 138) #[] #[.pointer (some ⟨d1, 0, none⟩)]] 97))
  replace HA := Lib.hid ((HA.out.later hb).push (.cells #[.func (.func 136) #[] #[.pointer (some ⟨d1, 0, none⟩)], .func (.func 138) #[] #[.pointer (some ⟨d1, 0, none⟩)]] 97))
  replace B0 := Lib.hid ((B0.out.later hb).push (.cells #[.func (.func 136) #[] #[.pointer (some ⟨d1, 0, none⟩)], .func (.func 138) #[] #[.pointer (some ⟨d1, 0, none⟩)]] 97))
  replace B1 := Lib.hid ((B1.out.later hb).push (.cells #[.func (.func 136) #[] #[.pointer (some ⟨d1, 0, none⟩)], .func (.func 138) #[] #[.pointer (some ⟨d1, 0, none⟩)]] 97))
  replace U := Lib.hid ((U.out.later hb).push (.cells #[.func (.func 136) #[] #[.pointer (some ⟨d1, 0, none⟩)], .func (.func 138) #[] #[.pointer (some ⟨d1, 0, none⟩)]] 97))
  have BC1 := Lib.hid (Blk.new w1 97 #[.func (.func 136) #[] #[.pointer (some ⟨d1, 0, none⟩)], .func (.func 138) #[] #[.pointer (some ⟨d1, 0, none⟩)]])
  clear C hb
  go_wp2_with fail
  refine (codecs_any _).mono ?_
  rintro e w2 ⟨m2, a2, d2, rfl, C, hb⟩
  have kl2 := (look_codec C 8 (by omega) (by omega)).2
  rw [show cAt a2 d2 8 = cLaw d2 from rfl, show speechB 8 = true from rfl] at kl2
  simp only [cLaw, cDel] at kl2
  have HL2 := Lib.hid (C.l2.push (.cells #[.func (.func 136) #[] #[.pointer (some ⟨d2, 0, none⟩)], .func (.func 138) #[] #[.pointer (some ⟨d2, 0, none⟩)]] 97))
  replace HA := Lib.hid ((HA.out.later hb).push (.cells #[.func (.func 136) #[] #[.pointer (some ⟨d2, 0, none⟩)], .func (.func 138) #[] #[.pointer (some ⟨d2, 0, none⟩)]] 97))
  replace B0 := Lib.hid ((B0.out.later hb).push (.cells #[.func (.func 136) #[] #[.pointer (some ⟨d2, 0, none⟩)], .func (.func 138) #[] #[.pointer (some ⟨d2, 0, none⟩)]] 97))
  replace B1 := Lib.hid ((B1.out.later hb).push (.cells #[.func (.func 136) #[] #[.pointer (some ⟨d2, 0, none⟩)], .func (.func 138) #[] #[.pointer (some ⟨d2, 0, none⟩)]] 97))
  replace U := Lib.hid ((U.out.later hb).push (.cells #[.func (.func 136) #[] #[.pointer (some ⟨d2, 0, none⟩)], .func (.func 138) #[] #[.pointer (some ⟨d2, 0, none⟩)]] 97))
  replace BC1 := Lib.hid ((BC1.out.later hb).push (.cells #[.func (.func 136) #[] #[.pointer (some ⟨d2, 0, none⟩)], .func (.func 138) #[] #[.pointer (some ⟨d2, 0, none⟩)]] 97))
  replace HL1 := Lib.hid ((HL1.out.later hb).push (.cells #[.func (.func 136) #[] #[.pointer (some ⟨d2, 0, none⟩)], .func (.func 138) #[] #[.pointer (some ⟨d2, 0, none⟩)]] 97))
  have BC2 := Lib.hid (Blk.new w2 97 #[.func (.func 136) #[] #[.pointer (some ⟨d2, 0, none⟩)], .func (.func 138) #[] #[.pointer (some ⟨d2, 0, none⟩)]])
  clear C hb
  have bc := BC1.out.at 1 _ rfl
  go_wp2_with fail
  refine (kD.out d1 _ HA.out HL1.out).mono ?_
  rintro e w3 ⟨A3, c3, rfl, hI, hb⟩
  have HI := Lib.hid hI.1
  replace B0 := Lib.hid (B0.out.later hb)
  replace B1 := Lib.hid (B1.out.later hb)
  replace U := Lib.hid (U.out.later hb)
  replace BC2 := Lib.hid (BC2.out.later hb)
  replace HL2 := Lib.hid (HL2.out.later hb)
  clear hI hb HA bc BC1 kD hnw HL1
  have bc0 := BC2.out.at 0 _ rfl
  have s0 := B0.out.at 0 _ rfl
  have s1 := B0.out.at 1 _ rfl
  go_wp2_with fail
  refine (kE.out A3 c3 d2 _ HI.out HL2.out).mono ?_
  rintro e w4 ⟨A4, c4, rfl, hE, hb⟩
  have HE := Lib.hid hE.1
  replace B1 := Lib.hid ((B1.out.later hb).push (.cells #[.int .i64 v, .int .i64 i] 24))
  replace U := Lib.hid ((U.out.later hb).push (.cells #[.int .i64 v, .int .i64 i] 24))
  replace HE := Lib.hid (HE.out.push (.cells #[.int .i64 v, .int .i64 i] 24))
  have BD := Lib.hid (Blk.new w4 24 #[.int .i64 v, .int .i64 i])
  clear hE hb bc0 s0 s1 B0 BC2 kE HI HL2
  have c0 := BD.out.at 0 _ rfl
  have c1 := BD.out.at 1 _ rfl
  have r0 := B1.out.at 0 _ rfl
  have r1 := B1.out.at 1 _ rfl
  have rz := B1.out.frozen
  go_upto_region 13 with fail
  go_region
  have RF := B1.out.set_ 0 (.int .i64 v)
  have RG := RF.set_ 1 (.int .i64 i)
  have q1 := RF.at 1 _ rfl
  have RE := (HE.out.set_ne r0 (by intro z e; cases e) (.int .i64 v)).set_ne q1 (by intro z e; cases e) (.int .i64 i)
  have UF := below_set_old (below_set_old U.out (by simp) (.int .i64 v) (p := ⟨w.heap.size + 1, 0, none⟩)) (by simp) (.int .i64 i) (p := ⟨w.heap.size + 1, 1, none⟩)
  go_wp2_with fail
  rw [HT.out]
  refine bodyPost_ret (v := .tuple #[.slice A4 EL.length c4, .agg #[.int .i64 v, .int .i64 i], .int .u8 0]) (res_tct Tryz.results8 rfl rfl (run_loadVar_row (P := Tryz.prog) _ _ _ _ _ _ _ RG.drew Tryz.underlying24 rfl (by kernel_rfl)) rfl) rfl ⟨A4, c4, rfl, ?_, UF.drew⟩
  exact RE.more (by simp [World.setCell])
set_option maxRecDepth 100000 in
set_option maxHeartbeats 12800000 in
theorem tr_8_96 (A : Option Addr) (bs : List Int) (c : Nat) (v i : Int) (w : World) (hA : IntsAt w w.heap.size .u8 A bs) (hz : Within 0 255 bs) (h8 : bs.length ≤ 5000) (hc : bs.length ≤ c) : Calls Tryz.prog 8 #[.int .u8 8, .int .u8 96, .slice A bs.length c, .agg #[.int .i64 v, .int .i64 i]] w (TranR (Sb.tran 8 96 bs v i) w) := by
  obtain ⟨TT, hTT⟩ : ∃ T, T = Sb.tran 8 96 bs v i := ⟨_, rfl⟩
  rw [← hTT]
  obtain ⟨ZL, hZL⟩ : ∃ Z, Z = bs.map Cmp.fromAZ := ⟨_, rfl⟩
  have hzi : Within (-32768) 32767 ZL := by rw [hZL]; exact within_map hz fromAZ_bd
  have hl8 : ZL.length ≤ 8000 := by rw [hZL, List.length_map]; omega
  have kD := Lib.hid fun (b : Nat) (W : World) hW hB => dec_a (2 * ((bs.length : Int) - 4)) A bs c b W hW hz (by omega) hB
  unfold DecR at kD
  rw [← hZL] at kD
  have e1 : Sb.decE 8 bs (2 * ((bs.length : Int) - 4)) = (ZL, 0) := by unfold Sb.decE; rw [if_neg (by decide), if_pos rfl, hZL]
  have kE := Lib.hid fun (A3 : Option Addr) (c3 : Nat) (W : World) hW => Pack_any v i W A3 ZL c3 hW hzi
  obtain ⟨P, hP⟩ : ∃ P, P = Dlt.packR v i ZL := ⟨_, rfl⟩
  rw [← hP] at kE
  have HP := Lib.hid hP
  clear hP
  obtain ⟨EL, P2, P3, P4⟩ := P
  dsimp only at kE
  have e2 : Sb.encE 96 v i ZL = (EL, (P2, P3), P4) := by unfold Sb.encE; rw [if_neg (by decide), if_neg (by decide), ← HP.out]
  have HT : Hid (TT = if P4 ≠ 0 then ([], (0, 0), P4) else (EL, (P2, P3), P4)) := Lib.hid (by
    rw [hTT]; unfold Sb.tran
    rw [if_neg (by decide), if_neg (fun h => absurd h.1 (by decide)), e1]
    dsimp only
    rw [if_neg (by simp)]
    rw [e2])
  have hnw : wrap64 (2 * ((bs.length : Int) - 4)) = 2 * ((bs.length : Int) - 4) := IntWalk.wrap64_in _ ⟨by omega, by omega⟩
  clear hz hTT e1 e2 hZL hzi hl8
  have HA := Lib.hid ((hA.push (.cells #[.int .i64 v, .int .i64 i] 24)).push (.cells #[.int .i64 0, .int .i64 0] 24))
  have B0 := Lib.hid ((Blk.new w 24 #[.int .i64 v, .int .i64 i]).push (.cells #[.int .i64 0, .int .i64 0] 24))
  have B1 := Lib.hid (Blk.new1 w (.cells #[.int .i64 v, .int .i64 i] 24) 24 #[.int .i64 0, .int .i64 0])
  have U := Lib.hid (((Bel.refl w).push (.cells #[.int .i64 v, .int .i64 i] 24)).push (.cells #[.int .i64 0, .int .i64 0] 24))
  clear hA
  go_enter Tryz.func8, Tryz.ntmps8
  go_upto_region 1 with fail
  change Code.wp _ _ _ _ ((w.alloc (Obj.cells #[.int .i64 v, .int .i64 i] 24)).alloc (Obj.cells #[.int .i64 0, .int .i64 0] 24))
  obtain ⟨W, hW⟩ : ∃ W, W = (w.alloc (Obj.cells #[.int .i64 v, .int .i64 i] 24)).alloc (Obj.cells #[.int .i64 0, .int .i64 0] 24) := ⟨_, rfl⟩
  rw [← hW] at HA B0 B1 U ⊢
  clear hW
  go_wp2_with fail
  refine (codecs_any _).mono ?_
  rintro e w1 ⟨m1, a1, d1, rfl, C, hb⟩
  have kl1 := (look_codec C 8 (by omega) (by omega)).2
  rw [show cAt a1 d1 8 = cLaw d1 from rfl, show speechB 8 = true from rfl] at kl1
  simp only [cLaw, cDel] at kl1
  have HL1 := Lib.hid (C.l2.push (.cells #[.func (.func 136) #[] #[.pointer (some ⟨d1, 0, none⟩)], .func (.func 138) #[] #[.pointer (some ⟨d1, 0, none⟩)]] 97))
  replace HA := Lib.hid ((HA.out.later hb).push (.cells #[.func (.func 136) #[] #[.pointer (some ⟨d1, 0, none⟩)], .func (.func 138) #[] #[.pointer (some ⟨d1, 0, none⟩)]] 97))
  replace B0 := Lib.hid ((B0.out.later hb).push (.cells #[.func (.func 136) #[] #[.pointer (some ⟨d1, 0, none⟩)], .func (.func 138) #[] #[.pointer (some ⟨d1, 0, none⟩)]] 97))
  replace B1 := Lib.hid ((B1.out.later hb).push (.cells #[.func (.func 136) #[] #[.pointer (some ⟨d1, 0, none⟩)], .func (.func 138) #[] #[.pointer (some ⟨d1, 0, none⟩)]] 97))
  replace U := Lib.hid ((U.out.later hb).push (.cells #[.func (.func 136) #[] #[.pointer (some ⟨d1, 0, none⟩)], .func (.func 138) #[] #[.pointer (some ⟨d1, 0, none⟩)]] 97))
  have BC1 := Lib.hid (Blk.new w1 97 #[.func (.func 136) #[] #[.pointer (some ⟨d1, 0, none⟩)], .func (.func 138) #[] #[.pointer (some ⟨d1, 0, none⟩)]])
  clear C hb
  go_wp2_with fail
  refine (codecs_any _).mono ?_
  rintro e w2 ⟨m2, a2, d2, rfl, C, hb⟩
  have kl2 := (look_codec C 96 (by omega) (by omega)).2
  rw [show cAt a2 d2 96 = cDel from rfl, show speechB 96 = true from rfl] at kl2
  simp only [cLaw, cDel] at kl2
  replace HA := Lib.hid ((HA.out.later hb).push (.cells #[.func (.func 92) #[] #[], .func (.func 93) #[] #[]] 97))
  replace B0 := Lib.hid ((B0.out.later hb).push (.cells #[.func (.func 92) #[] #[], .func (.func 93) #[] #[]] 97))
  replace B1 := Lib.hid ((B1.out.later hb).push (.cells #[.func (.func 92) #[] #[], .func (.func 93) #[] #[]] 97))
  replace U := Lib.hid ((U.out.later hb).push (.cells #[.func (.func 92) #[] #[], .func (.func 93) #[] #[]] 97))
  replace BC1 := Lib.hid ((BC1.out.later hb).push (.cells #[.func (.func 92) #[] #[], .func (.func 93) #[] #[]] 97))
  replace HL1 := Lib.hid ((HL1.out.later hb).push (.cells #[.func (.func 92) #[] #[], .func (.func 93) #[] #[]] 97))
  have BC2 := Lib.hid (Blk.new w2 97 #[.func (.func 92) #[] #[], .func (.func 93) #[] #[]])
  clear C hb
  have bc := BC1.out.at 1 _ rfl
  go_wp2_with fail
  refine (kD.out d1 _ HA.out HL1.out).mono ?_
  rintro e w3 ⟨A3, c3, rfl, hI, hb⟩
  have HI := Lib.hid hI.1
  replace B0 := Lib.hid (B0.out.later hb)
  replace B1 := Lib.hid (B1.out.later hb)
  replace U := Lib.hid (U.out.later hb)
  replace BC2 := Lib.hid (BC2.out.later hb)
  clear hI hb HA bc BC1 kD hnw HL1
  have bc0 := BC2.out.at 0 _ rfl
  have s0 := B0.out.at 0 _ rfl
  have s1 := B0.out.at 1 _ rfl
  go_wp2_with fail
  refine (kE.out A3 c3 _ HI.out).mono ?_
  rintro e w4 ⟨A4, c4, rfl, hE, hb⟩
  have HE := Lib.hid hE
  replace B1 := Lib.hid ((B1.out.later hb).push (.cells #[.int .i64 P2, .int .i64 P3] 24))
  replace U := Lib.hid ((U.out.later hb).push (.cells #[.int .i64 P2, .int .i64 P3] 24))
  replace HE := Lib.hid (HE.out.push (.cells #[.int .i64 P2, .int .i64 P3] 24))
  have BD := Lib.hid (Blk.new w4 24 #[.int .i64 P2, .int .i64 P3])
  clear hE hb bc0 s0 s1 B0 BC2 kE HI
  by_cases hp4 : P4 = 0
  rotate_left
  · have e3 := HT.out
    rw [if_pos hp4] at e3
    subst e3
    clear HT
    have y0 := B1.out.at 0 _ rfl
    have y1 := B1.out.at 1 _ rfl
    have yz := B1.out.frozen
    go_wp2_with fail
    have Y1 := (B1.out.set_ 0 (.int .i64 0)).set_ 1 (.int .i64 0)
    refine bodyPost_ret (v := .tuple #[.slice none 0 0, .agg #[.int .i64 0, .int .i64 0], .int .u8 P4]) (res_tct Tryz.results8 rfl rfl (run_loadVar_row (P := Tryz.prog) _ _ _ _ _ _ _ Y1 Tryz.underlying24 rfl (by kernel_rfl)) rfl) rfl ⟨none, 0, rfl, IntsAt.nil, below_set_old (below_set_old U.out (by simp) _) (by simp) _⟩
  subst hp4
  replace HT := Lib.hid (HT.out.trans (if_neg (by simp)))
  have c0 := BD.out.at 0 _ rfl
  have c1 := BD.out.at 1 _ rfl
  have r0 := B1.out.at 0 _ rfl
  have r1 := B1.out.at 1 _ rfl
  have rz := B1.out.frozen
  go_upto_region 13 with fail
  go_region
  have RF := B1.out.set_ 0 (.int .i64 P2)
  have RG := RF.set_ 1 (.int .i64 P3)
  have q1 := RF.at 1 _ rfl
  have RE := (HE.out.set_ne r0 (by intro z e; cases e) (.int .i64 P2)).set_ne q1 (by intro z e; cases e) (.int .i64 P3)
  have UF := below_set_old (below_set_old U.out (by simp) (.int .i64 P2) (p := ⟨w.heap.size + 1, 0, none⟩)) (by simp) (.int .i64 P3) (p := ⟨w.heap.size + 1, 1, none⟩)
  go_wp2_with fail
  rw [HT.out]
  refine bodyPost_ret (v := .tuple #[.slice A4 EL.length c4, .agg #[.int .i64 P2, .int .i64 P3], .int .u8 0]) (res_tct Tryz.results8 rfl rfl (run_loadVar_row (P := Tryz.prog) _ _ _ _ _ _ _ RG.drew Tryz.underlying24 rfl (by kernel_rfl)) rfl) rfl ⟨A4, c4, rfl, ?_, UF.drew⟩
  exact RE.more (by simp [World.setCell])
set_option maxRecDepth 100000 in
set_option maxHeartbeats 12800000 in
theorem tr_96_0 (A : Option Addr) (bs : List Int) (c : Nat) (v i : Int) (w : World) (hA : IntsAt w w.heap.size .u8 A bs) (hz : Within 0 255 bs) (h8 : bs.length ≤ 5000) (hc : bs.length ≤ c) (h4 : ¬bs.length < 4) : Calls Tryz.prog 8 #[.int .u8 96, .int .u8 0, .slice A bs.length c, .agg #[.int .i64 v, .int .i64 i]] w (TranR (Sb.tran 96 0 bs v i) w) := by
  obtain ⟨TT, hTT⟩ : ∃ T, T = Sb.tran 96 0 bs v i := ⟨_, rfl⟩
  rw [← hTT]
  have hm : bs.length ≤ maxLen := by unfold maxLen; omega
  have hzi := unpR_in bs (2 * ((bs.length : Int) - 4)) hz
  have hl8 := unpR_len bs (2 * ((bs.length : Int) - 4))
  have kD := Lib.hid fun (W : World) hW => dec_del (2 * ((bs.length : Int) - 4)) A bs c W hW hz hc hm
  unfold DecR at kD
  obtain ⟨R, hR⟩ : ∃ R, R = Dlt.unpR bs (2 * ((bs.length : Int) - 4)) := ⟨_, rfl⟩
  rw [← hR] at hzi hl8 kD
  have HR := Lib.hid hR
  clear hR
  obtain ⟨ZL, R2, R3, R4⟩ := R
  dsimp only at hzi hl8 kD
  have e1 : Sb.decE 96 bs (2 * ((bs.length : Int) - 4)) = (ZL, R4) := by unfold Sb.decE; rw [if_neg (by decide), if_neg (by decide), ← HR.out]
  obtain ⟨EL, hEL⟩ : ∃ Z, Z = ZL.map Cmp.muZ := ⟨_, rfl⟩
  have kE := Lib.hid fun (A3 : Option Addr) (c3 b : Nat) (W : World) hW hB => enc_mu v i A3 ZL c3 b W hW hzi hl8 hB
  unfold EncR at kE
  rw [← hEL] at kE
  have e2 : Sb.encE 0 v i ZL = (EL, (v, i), 0) := by unfold Sb.encE; rw [if_pos rfl, hEL]
  have HT : Hid (TT = if R4 ≠ 0 then ([], (0, 0), R4) else (EL, (v, i), 0)) := Lib.hid (by
    rw [hTT]; unfold Sb.tran
    rw [if_neg (by decide), if_neg (fun h => h4 h.2), e1]
    dsimp only
    rw [e2]
    simp only [ne_eq, not_true_eq_false, if_false])
  have hnw : wrap64 (2 * ((bs.length : Int) - 4)) = 2 * ((bs.length : Int) - 4) := IntWalk.wrap64_in _ ⟨by omega, by omega⟩
  have h4i : ¬(bs.length : Int) < 4 := by omega
  clear hz hTT e1 e2 hEL hzi hl8
  have HA := Lib.hid ((hA.push (.cells #[.int .i64 v, .int .i64 i] 24)).push (.cells #[.int .i64 0, .int .i64 0] 24))
  have B0 := Lib.hid ((Blk.new w 24 #[.int .i64 v, .int .i64 i]).push (.cells #[.int .i64 0, .int .i64 0] 24))
  have B1 := Lib.hid (Blk.new1 w (.cells #[.int .i64 v, .int .i64 i] 24) 24 #[.int .i64 0, .int .i64 0])
  have U := Lib.hid (((Bel.refl w).push (.cells #[.int .i64 v, .int .i64 i] 24)).push (.cells #[.int .i64 0, .int .i64 0] 24))
  clear hA
  go_enter Tryz.func8, Tryz.ntmps8
  go_upto_region 1 with fail
  change Code.wp _ _ _ _ ((w.alloc (Obj.cells #[.int .i64 v, .int .i64 i] 24)).alloc (Obj.cells #[.int .i64 0, .int .i64 0] 24))
  obtain ⟨W, hW⟩ : ∃ W, W = (w.alloc (Obj.cells #[.int .i64 v, .int .i64 i] 24)).alloc (Obj.cells #[.int .i64 0, .int .i64 0] 24) := ⟨_, rfl⟩
  rw [← hW] at HA B0 B1 U ⊢
  clear hW
  go_wp2_with fail
  refine (codecs_any _).mono ?_
  rintro e w1 ⟨m1, a1, d1, rfl, C, hb⟩
  have kl1 := (look_codec C 96 (by omega) (by omega)).2
  rw [show cAt a1 d1 96 = cDel from rfl, show speechB 96 = true from rfl] at kl1
  simp only [cLaw, cDel] at kl1
  replace HA := Lib.hid ((HA.out.later hb).push (.cells #[.func (.func 92) #[] #[], .func (.func 93) #[] #[]] 97))
  replace B0 := Lib.hid ((B0.out.later hb).push (.cells #[.func (.func 92) #[] #[], .func (.func 93) #[] #[]] 97))
  replace B1 := Lib.hid ((B1.out.later hb).push (.cells #[.func (.func 92) #[] #[], .func (.func 93) #[] #[]] 97))
  replace U := Lib.hid ((U.out.later hb).push (.cells #[.func (.func 92) #[] #[], .func (.func 93) #[] #[]] 97))
  have BC1 := Lib.hid (Blk.new w1 97 #[.func (.func 92) #[] #[], .func (.func 93) #[] #[]])
  clear C hb
  go_wp2_with fail
  refine (codecs_any _).mono ?_
  rintro e w2 ⟨m2, a2, d2, rfl, C, hb⟩
  have kl2 := (look_codec C 0 (by omega) (by omega)).2
  rw [show cAt a2 d2 0 = cLaw a2 from rfl, show speechB 0 = true from rfl] at kl2
  simp only [cLaw, cDel] at kl2
  have HL2 := Lib.hid (C.l1.push (.cells #[.func (.func 136) #[] #[.pointer (some ⟨a2, 0, none⟩)], .func (.func 138) #[] #[.pointer (some ⟨a2, 0, none⟩)]] 97))
  replace HA := Lib.hid ((HA.out.later hb).push (.cells #[.func (.func 136) #[] #[.pointer (some ⟨a2, 0, none⟩)], .func (.func 138) #[] #[.pointer (some ⟨a2, 0, none⟩)]] 97))
  replace B0 := Lib.hid ((B0.out.later hb).push (.cells #[.func (.func 136) #[] #[.pointer (some ⟨a2, 0, none⟩)], .func (.func 138) #[] #[.pointer (some ⟨a2, 0, none⟩)]] 97))
  replace B1 := Lib.hid ((B1.out.later hb).push (.cells #[.func (.func 136) #[] #[.pointer (some ⟨a2, 0, none⟩)], .func (.func 138) #[] #[.pointer (some ⟨a2, 0, none⟩)]] 97))
  replace U := Lib.hid ((U.out.later hb).push (.cells #[.func (.func 136) #[] #[.pointer (some ⟨a2, 0, none⟩)], .func (.func 138) #[] #[.pointer (some ⟨a2, 0, none⟩)]] 97))
  replace BC1 := Lib.hid ((BC1.out.later hb).push (.cells #[.func (.func 136) #[] #[.pointer (some ⟨a2, 0, none⟩)], .func (.func 138) #[] #[.pointer (some ⟨a2, 0, none⟩)]] 97))
  have BC2 := Lib.hid (Blk.new w2 97 #[.func (.func 136) #[] #[.pointer (some ⟨a2, 0, none⟩)], .func (.func 138) #[] #[.pointer (some ⟨a2, 0, none⟩)]])
  clear C hb
  have bc := BC1.out.at 1 _ rfl
  go_wp2_with fail
  refine (kD.out _ HA.out).mono ?_
  rintro e w3 ⟨A3, c3, rfl, hI, hb⟩
  have HI := Lib.hid hI.1
  replace B0 := Lib.hid (B0.out.later hb)
  replace B1 := Lib.hid (B1.out.later hb)
  replace U := Lib.hid (U.out.later hb)
  replace BC2 := Lib.hid (BC2.out.later hb)
  replace HL2 := Lib.hid (HL2.out.later hb)
  clear hI hb HA bc BC1 kD hnw
  by_cases hr4 : R4 = 0
  rotate_left
  · have e3 := HT.out
    rw [if_pos hr4] at e3
    subst e3
    clear HT
    have y0 := B1.out.at 0 _ rfl
    have y1 := B1.out.at 1 _ rfl
    have yz := B1.out.frozen
    go_wp2_with fail
    have Y1 := (B1.out.set_ 0 (.int .i64 0)).set_ 1 (.int .i64 0)
    refine bodyPost_ret (v := .tuple #[.slice none 0 0, .agg #[.int .i64 0, .int .i64 0], .int .u8 R4]) (res_tct Tryz.results8 rfl rfl (run_loadVar_row (P := Tryz.prog) _ _ _ _ _ _ _ Y1 Tryz.underlying24 rfl (by kernel_rfl)) rfl) rfl ⟨none, 0, rfl, IntsAt.nil, below_set_old (below_set_old U.out (by simp) _) (by simp) _⟩
  subst hr4
  replace HT := Lib.hid (HT.out.trans (if_neg (by simp)))
  have bc0 := BC2.out.at 0 _ rfl
  have s0 := B0.out.at 0 _ rfl
  have s1 := B0.out.at 1 _ rfl
  go_wp2_with fail
  refine (kE.out A3 c3 a2 _ HI.out HL2.out).mono ?_
  rintro e w4 ⟨A4, c4, rfl, hE, hb⟩
  have HE := Lib.hid hE.1
  replace B1 := Lib.hid ((B1.out.later hb).push (.cells #[.int .i64 v, .int .i64 i] 24))
  replace U := Lib.hid ((U.out.later hb).push (.cells #[.int .i64 v, .int .i64 i] 24))
  replace HE := Lib.hid (HE.out.push (.cells #[.int .i64 v, .int .i64 i] 24))
  have BD := Lib.hid (Blk.new w4 24 #[.int .i64 v, .int .i64 i])
  clear hE hb bc0 s0 s1 B0 BC2 kE HI HL2
  have c0 := BD.out.at 0 _ rfl
  have c1 := BD.out.at 1 _ rfl
  have r0 := B1.out.at 0 _ rfl
  have r1 := B1.out.at 1 _ rfl
  have rz := B1.out.frozen
  go_upto_region 13 with fail
  go_region
  have RF := B1.out.set_ 0 (.int .i64 v)
  have RG := RF.set_ 1 (.int .i64 i)
  have q1 := RF.at 1 _ rfl
  have RE := (HE.out.set_ne r0 (by intro z e; cases e) (.int .i64 v)).set_ne q1 (by intro z e; cases e) (.int .i64 i)
  have UF := below_set_old (below_set_old U.out (by simp) (.int .i64 v) (p := ⟨w.heap.size + 1, 0, none⟩)) (by simp) (.int .i64 i) (p := ⟨w.heap.size + 1, 1, none⟩)
  go_wp2_with fail
  rw [HT.out]
  refine bodyPost_ret (v := .tuple #[.slice A4 EL.length c4, .agg #[.int .i64 v, .int .i64 i], .int .u8 0]) (res_tct Tryz.results8 rfl rfl (run_loadVar_row (P := Tryz.prog) _ _ _ _ _ _ _ RG.drew Tryz.underlying24 rfl (by kernel_rfl)) rfl) rfl ⟨A4, c4, rfl, ?_, UF.drew⟩
  exact RE.more (by simp [World.setCell])
set_option maxRecDepth 100000 in
set_option maxHeartbeats 12800000 in
theorem tr_96_8 (A : Option Addr) (bs : List Int) (c : Nat) (v i : Int) (w : World) (hA : IntsAt w w.heap.size .u8 A bs) (hz : Within 0 255 bs) (h8 : bs.length ≤ 5000) (hc : bs.length ≤ c) (h4 : ¬bs.length < 4) : Calls Tryz.prog 8 #[.int .u8 96, .int .u8 8, .slice A bs.length c, .agg #[.int .i64 v, .int .i64 i]] w (TranR (Sb.tran 96 8 bs v i) w) := by
  obtain ⟨TT, hTT⟩ : ∃ T, T = Sb.tran 96 8 bs v i := ⟨_, rfl⟩
  rw [← hTT]
  have hm : bs.length ≤ maxLen := by unfold maxLen; omega
  have hzi := unpR_in bs (2 * ((bs.length : Int) - 4)) hz
  have hl8 := unpR_len bs (2 * ((bs.length : Int) - 4))
  have kD := Lib.hid fun (W : World) hW => dec_del (2 * ((bs.length : Int) - 4)) A bs c W hW hz hc hm
  unfold DecR at kD
  obtain ⟨R, hR⟩ : ∃ R, R = Dlt.unpR bs (2 * ((bs.length : Int) - 4)) := ⟨_, rfl⟩
  rw [← hR] at hzi hl8 kD
  have HR := Lib.hid hR
  clear hR
  obtain ⟨ZL, R2, R3, R4⟩ := R
  dsimp only at hzi hl8 kD
  have e1 : Sb.decE 96 bs (2 * ((bs.length : Int) - 4)) = (ZL, R4) := by unfold Sb.decE; rw [if_neg (by decide), if_neg (by decide), ← HR.out]
  obtain ⟨EL, hEL⟩ : ∃ Z, Z = ZL.map Cmp.aZ := ⟨_, rfl⟩
  have kE := Lib.hid fun (A3 : Option Addr) (c3 b : Nat) (W : World) hW hB => enc_a v i A3 ZL c3 b W hW hzi hl8 hB
  unfold EncR at kE
  rw [← hEL] at kE
  have e2 : Sb.encE 8 v i ZL = (EL, (v, i), 0) := by unfold Sb.encE; rw [if_neg (by decide), if_pos rfl, hEL]
  have HT : Hid (TT = if R4 ≠ 0 then ([], (0, 0), R4) else (EL, (v, i), 0)) := Lib.hid (by
    rw [hTT]; unfold Sb.tran
    rw [if_neg (by decide), if_neg (fun h => h4 h.2), e1]
    dsimp only
    rw [e2]
    simp only [ne_eq, not_true_eq_false, if_false])
  have hnw : wrap64 (2 * ((bs.length : Int) - 4)) = 2 * ((bs.length : Int) - 4) := IntWalk.wrap64_in _ ⟨by omega, by omega⟩
  have h4i : ¬(bs.length : Int) < 4 := by omega
  clear hz hTT e1 e2 hEL hzi hl8
  have HA := Lib.hid ((hA.push (.cells #[.int .i64 v, .int .i64 i] 24)).push (.cells #[.int .i64 0, .int .i64 0] 24))
  have B0 := Lib.hid ((Blk.new w 24 #[.int .i64 v, .int .i64 i]).push (.cells #[.int .i64 0, .int .i64 0] 24))
  have B1 := Lib.hid (Blk.new1 w (.cells #[.int .i64 v, .int .i64 i] 24) 24 #[.int .i64 0, .int .i64 0])
  have U := Lib.hid (((Bel.refl w).push (.cells #[.int .i64 v, .int .i64 i] 24)).push (.cells #[.int .i64 0, .int .i64 0] 24))
  clear hA
  go_enter Tryz.func8, Tryz.ntmps8
  go_upto_region 1 with fail
  change Code.wp _ _ _ _ ((w.alloc (Obj.cells #[.int .i64 v, .int .i64 i] 24)).alloc (Obj.cells #[.int .i64 0, .int .i64 0] 24))
  obtain ⟨W, hW⟩ : ∃ W, W = (w.alloc (Obj.cells #[.int .i64 v, .int .i64 i] 24)).alloc (Obj.cells #[.int .i64 0, .int .i64 0] 24) := ⟨_, rfl⟩
  rw [← hW] at HA B0 B1 U ⊢
  clear hW
  go_wp2_with fail
  refine (codecs_any _).mono ?_
  rintro e w1 ⟨m1, a1, d1, rfl, C, hb⟩
  have kl1 := (look_codec C 96 (by omega) (by omega)).2
  rw [show cAt a1 d1 96 = cDel from rfl, show speechB 96 = true from rfl] at kl1
  simp only [cLaw, cDel] at kl1
  replace HA := Lib.hid ((HA.out.later hb).push (.cells #[.func (.func 92) #[] #[], .func (.func 93) #[] #[]] 97))
  replace B0 := Lib.hid ((B0.out.later hb).push (.cells #[.func (.func 92) #[] #[], .func (.func 93) #[] #[]] 97))
  replace B1 := Lib.hid ((B1.out.later hb).push (.cells #[.func (.func 92) #[] #[], .func (.func 93) #[] #[]] 97))
  replace U := Lib.hid ((U.out.later hb).push (.cells #[.func (.func 92) #[] #[], .func (.func 93) #[] #[]] 97))
  have BC1 := Lib.hid (Blk.new w1 97 #[.func (.func 92) #[] #[], .func (.func 93) #[] #[]])
  clear C hb
  go_wp2_with fail
  refine (codecs_any _).mono ?_
  rintro e w2 ⟨m2, a2, d2, rfl, C, hb⟩
  have kl2 := (look_codec C 8 (by omega) (by omega)).2
  rw [show cAt a2 d2 8 = cLaw d2 from rfl, show speechB 8 = true from rfl] at kl2
  simp only [cLaw, cDel] at kl2
  have HL2 := Lib.hid (C.l2.push (.cells #[.func (.func 136) #[] #[.pointer (some ⟨d2, 0, none⟩)], .func (.func 138) #[] #[.pointer (some ⟨d2, 0, none⟩)]] 97))
  replace HA := Lib.hid ((HA.out.later hb).push (.cells #[.func (.func 136) #[] #[.pointer (some ⟨d2, 0, none⟩)], .func (.func 138) #[] #[.pointer (some ⟨d2, 0, none⟩)]] 97))
  replace B0 := Lib.hid ((B0.out.later hb).push (.cells #[.func (.func 136) #[] #[.pointer (some ⟨d2, 0, none⟩)], .func (.func 138) #[] #[.pointer (some ⟨d2, 0, none⟩)]] 97))
  replace B1 := Lib.hid ((B1.out.later hb).push (.cells #[.func (.func 136) #[] #[.pointer (some ⟨d2, 0, none⟩)], .func (.func 138) #[] #[.pointer (some ⟨d2, 0, none⟩)]] 97))
  replace U := Lib.hid ((U.out.later hb).push (.cells #[.func (.func 136) #[] #[.pointer (some ⟨d2, 0, none⟩)], .func (.func 138) #[] #[.pointer (some ⟨d2, 0, none⟩)]] 97))
  replace BC1 := Lib.hid ((BC1.out.later hb).push (.cells #[.func (.func 136) #[] #[.pointer (some ⟨d2, 0, none⟩)], .func (.func 138) #[] #[.pointer (some ⟨d2, 0, none⟩)]] 97))
  have BC2 := Lib.hid (Blk.new w2 97 #[.func (.func 136) #[] #[.pointer (some ⟨d2, 0, none⟩)], .func (.func 138) #[] #[.pointer (some ⟨d2, 0, none⟩)]])
  clear C hb
  have bc := BC1.out.at 1 _ rfl
  go_wp2_with fail
  refine (kD.out _ HA.out).mono ?_
  rintro e w3 ⟨A3, c3, rfl, hI, hb⟩
  have HI := Lib.hid hI.1
  replace B0 := Lib.hid (B0.out.later hb)
  replace B1 := Lib.hid (B1.out.later hb)
  replace U := Lib.hid (U.out.later hb)
  replace BC2 := Lib.hid (BC2.out.later hb)
  replace HL2 := Lib.hid (HL2.out.later hb)
  clear hI hb HA bc BC1 kD hnw
  by_cases hr4 : R4 = 0
  rotate_left
  · have e3 := HT.out
    rw [if_pos hr4] at e3
    subst e3
    clear HT
    have y0 := B1.out.at 0 _ rfl
    have y1 := B1.out.at 1 _ rfl
    have yz := B1.out.frozen
    go_wp2_with fail
    have Y1 := (B1.out.set_ 0 (.int .i64 0)).set_ 1 (.int .i64 0)
    refine bodyPost_ret (v := .tuple #[.slice none 0 0, .agg #[.int .i64 0, .int .i64 0], .int .u8 R4]) (res_tct Tryz.results8 rfl rfl (run_loadVar_row (P := Tryz.prog) _ _ _ _ _ _ _ Y1 Tryz.underlying24 rfl (by kernel_rfl)) rfl) rfl ⟨none, 0, rfl, IntsAt.nil, below_set_old (below_set_old U.out (by simp) _) (by simp) _⟩
  subst hr4
  replace HT := Lib.hid (HT.out.trans (if_neg (by simp)))
  have bc0 := BC2.out.at 0 _ rfl
  have s0 := B0.out.at 0 _ rfl
  have s1 := B0.out.at 1 _ rfl
  go_wp2_with fail
  refine (kE.out A3 c3 d2 _ HI.out HL2.out).mono ?_
  rintro e w4 ⟨A4, c4, rfl, hE, hb⟩
  have HE := Lib.hid hE.1
  replace B1 := Lib.hid ((B1.out.later hb).push (.cells #[.int .i64 v, .int .i64 i] 24))
  replace U := Lib.hid ((U.out.later hb).push (.cells #[.int .i64 v, .int .i64 i] 24))
  replace HE := Lib.hid (HE.out.push (.cells #[.int .i64 v, .int .i64 i] 24))
  have BD := Lib.hid (Blk.new w4 24 #[.int .i64 v, .int .i64 i])
  clear hE hb bc0 s0 s1 B0 BC2 kE HI HL2
  have c0 := BD.out.at 0 _ rfl
  have c1 := BD.out.at 1 _ rfl
  have r0 := B1.out.at 0 _ rfl
  have r1 := B1.out.at 1 _ rfl
  have rz := B1.out.frozen
  go_upto_region 13 with fail
  go_region
  have RF := B1.out.set_ 0 (.int .i64 v)
  have RG := RF.set_ 1 (.int .i64 i)
  have q1 := RF.at 1 _ rfl
  have RE := (HE.out.set_ne r0 (by intro z e; cases e) (.int .i64 v)).set_ne q1 (by intro z e; cases e) (.int .i64 i)
  have UF := below_set_old (below_set_old U.out (by simp) (.int .i64 v) (p := ⟨w.heap.size + 1, 0, none⟩)) (by simp) (.int .i64 i) (p := ⟨w.heap.size + 1, 1, none⟩)
  go_wp2_with fail
  rw [HT.out]
  refine bodyPost_ret (v := .tuple #[.slice A4 EL.length c4, .agg #[.int .i64 v, .int .i64 i], .int .u8 0]) (res_tct Tryz.results8 rfl rfl (run_loadVar_row (P := Tryz.prog) _ _ _ _ _ _ _ RG.drew Tryz.underlying24 rfl (by kernel_rfl)) rfl) rfl ⟨A4, c4, rfl, ?_, UF.drew⟩
  exact RE.more (by simp [World.setCell])
set_option maxRecDepth 100000 in
set_option maxHeartbeats 12800000 in
theorem tr_96_96 (A : Option Addr) (bs : List Int) (c : Nat) (v i : Int) (w : World) (hA : IntsAt w w.heap.size .u8 A bs) (hz : Within 0 255 bs) (h8 : bs.length ≤ 5000) (hc : bs.length ≤ c) (h4 : ¬bs.length < 4) : Calls Tryz.prog 8 #[.int .u8 96, .int .u8 96, .slice A bs.length c, .agg #[.int .i64 v, .int .i64 i]] w (TranR (Sb.tran 96 96 bs v i) w) := by
  obtain ⟨TT, hTT⟩ : ∃ T, T = Sb.tran 96 96 bs v i := ⟨_, rfl⟩
  rw [← hTT]
  have hm : bs.length ≤ maxLen := by unfold maxLen; omega
  have hzi := unpR_in bs (2 * ((bs.length : Int) - 4)) hz
  have hl8 := unpR_len bs (2 * ((bs.length : Int) - 4))
  have kD := Lib.hid fun (W : World) hW => dec_del (2 * ((bs.length : Int) - 4)) A bs c W hW hz hc hm
  unfold DecR at kD
  obtain ⟨R, hR⟩ : ∃ R, R = Dlt.unpR bs (2 * ((bs.length : Int) - 4)) := ⟨_, rfl⟩
  rw [← hR] at hzi hl8 kD
  have HR := Lib.hid hR
  clear hR
  obtain ⟨ZL, R2, R3, R4⟩ := R
  dsimp only at hzi hl8 kD
  have e1 : Sb.decE 96 bs (2 * ((bs.length : Int) - 4)) = (ZL, R4) := by unfold Sb.decE; rw [if_neg (by decide), if_neg (by decide), ← HR.out]
  have kE := Lib.hid fun (A3 : Option Addr) (c3 : Nat) (W : World) hW => Pack_any v i W A3 ZL c3 hW hzi
  obtain ⟨P, hP⟩ : ∃ P, P = Dlt.packR v i ZL := ⟨_, rfl⟩
  rw [← hP] at kE
  have HP := Lib.hid hP
  clear hP
  obtain ⟨EL, P2, P3, P4⟩ := P
  dsimp only at kE
  have e2 : Sb.encE 96 v i ZL = (EL, (P2, P3), P4) := by unfold Sb.encE; rw [if_neg (by decide), if_neg (by decide), ← HP.out]
  have HT : Hid (TT = if R4 ≠ 0 then ([], (0, 0), R4) else if P4 ≠ 0 then ([], (0, 0), P4) else (EL, (P2, P3), P4)) := Lib.hid (by
    rw [hTT]; unfold Sb.tran
    rw [if_neg (by decide), if_neg (fun h => h4 h.2), e1]
    dsimp only
    rw [e2])
  have hnw : wrap64 (2 * ((bs.length : Int) - 4)) = 2 * ((bs.length : Int) - 4) := IntWalk.wrap64_in _ ⟨by omega, by omega⟩
  have h4i : ¬(bs.length : Int) < 4 := by omega
  clear hz hTT e1 e2 hzi hl8
  have HA := Lib.hid ((hA.push (.cells #[.int .i64 v, .int .i64 i] 24)).push (.cells #[.int .i64 0, .int .i64 0] 24))
  have B0 := Lib.hid ((Blk.new w 24 #[.int .i64 v, .int .i64 i]).push (.cells #[.int .i64 0, .int .i64 0] 24))
  have B1 := Lib.hid (Blk.new1 w (.cells #[.int .i64 v, .int .i64 i] 24) 24 #[.int .i64 0, .int .i64 0])
  have U := Lib.hid (((Bel.refl w).push (.cells #[.int .i64 v, .int .i64 i] 24)).push (.cells #[.int .i64 0, .int .i64 0] 24))
  clear hA
  go_enter Tryz.func8, Tryz.ntmps8
  go_upto_region 1 with fail
  change Code.wp _ _ _ _ ((w.alloc (Obj.cells #[.int .i64 v, .int .i64 i] 24)).alloc (Obj.cells #[.int .i64 0, .int .i64 0] 24))
  obtain ⟨W, hW⟩ : ∃ W, W = (w.alloc (Obj.cells #[.int .i64 v, .int .i64 i] 24)).alloc (Obj.cells #[.int .i64 0, .int .i64 0] 24) := ⟨_, rfl⟩
  rw [← hW] at HA B0 B1 U ⊢
  clear hW
  go_wp2_with fail
  refine (codecs_any _).mono ?_
  rintro e w1 ⟨m1, a1, d1, rfl, C, hb⟩
  have kl1 := (look_codec C 96 (by omega) (by omega)).2
  rw [show cAt a1 d1 96 = cDel from rfl, show speechB 96 = true from rfl] at kl1
  simp only [cLaw, cDel] at kl1
  replace HA := Lib.hid ((HA.out.later hb).push (.cells #[.func (.func 92) #[] #[], .func (.func 93) #[] #[]] 97))
  replace B0 := Lib.hid ((B0.out.later hb).push (.cells #[.func (.func 92) #[] #[], .func (.func 93) #[] #[]] 97))
  replace B1 := Lib.hid ((B1.out.later hb).push (.cells #[.func (.func 92) #[] #[], .func (.func 93) #[] #[]] 97))
  replace U := Lib.hid ((U.out.later hb).push (.cells #[.func (.func 92) #[] #[], .func (.func 93) #[] #[]] 97))
  have BC1 := Lib.hid (Blk.new w1 97 #[.func (.func 92) #[] #[], .func (.func 93) #[] #[]])
  clear C hb
  go_wp2_with fail
  refine (codecs_any _).mono ?_
  rintro e w2 ⟨m2, a2, d2, rfl, C, hb⟩
  have kl2 := (look_codec C 96 (by omega) (by omega)).2
  rw [show cAt a2 d2 96 = cDel from rfl, show speechB 96 = true from rfl] at kl2
  simp only [cLaw, cDel] at kl2
  replace HA := Lib.hid ((HA.out.later hb).push (.cells #[.func (.func 92) #[] #[], .func (.func 93) #[] #[]] 97))
  replace B0 := Lib.hid ((B0.out.later hb).push (.cells #[.func (.func 92) #[] #[], .func (.func 93) #[] #[]] 97))
  replace B1 := Lib.hid ((B1.out.later hb).push (.cells #[.func (.func 92) #[] #[], .func (.func 93) #[] #[]] 97))
  replace U := Lib.hid ((U.out.later hb).push (.cells #[.func (.func 92) #[] #[], .func (.func 93) #[] #[]] 97))
  replace BC1 := Lib.hid ((BC1.out.later hb).push (.cells #[.func (.func 92) #[] #[], .func (.func 93) #[] #[]] 97))
  have BC2 := Lib.hid (Blk.new w2 97 #[.func (.func 92) #[] #[], .func (.func 93) #[] #[]])
  clear C hb
  have bc := BC1.out.at 1 _ rfl
  go_wp2_with fail
  refine (kD.out _ HA.out).mono ?_
  rintro e w3 ⟨A3, c3, rfl, hI, hb⟩
  have HI := Lib.hid hI.1
  replace B0 := Lib.hid (B0.out.later hb)
  replace B1 := Lib.hid (B1.out.later hb)
  replace U := Lib.hid (U.out.later hb)
  replace BC2 := Lib.hid (BC2.out.later hb)
  clear hI hb HA bc BC1 kD hnw
  by_cases hr4 : R4 = 0
  rotate_left
  · have e3 := HT.out
    rw [if_pos hr4] at e3
    subst e3
    clear HT
    have y0 := B1.out.at 0 _ rfl
    have y1 := B1.out.at 1 _ rfl
    have yz := B1.out.frozen
    go_wp2_with fail
    have Y1 := (B1.out.set_ 0 (.int .i64 0)).set_ 1 (.int .i64 0)
    refine bodyPost_ret (v := .tuple #[.slice none 0 0, .agg #[.int .i64 0, .int .i64 0], .int .u8 R4]) (res_tct Tryz.results8 rfl rfl (run_loadVar_row (P := Tryz.prog) _ _ _ _ _ _ _ Y1 Tryz.underlying24 rfl (by kernel_rfl)) rfl) rfl ⟨none, 0, rfl, IntsAt.nil, below_set_old (below_set_old U.out (by simp) _) (by simp) _⟩
  subst hr4
  replace HT := Lib.hid (HT.out.trans (if_neg (by simp)))
  have bc0 := BC2.out.at 0 _ rfl
  have s0 := B0.out.at 0 _ rfl
  have s1 := B0.out.at 1 _ rfl
  go_wp2_with fail
  refine (kE.out A3 c3 _ HI.out).mono ?_
  rintro e w4 ⟨A4, c4, rfl, hE, hb⟩
  have HE := Lib.hid hE
  replace B1 := Lib.hid ((B1.out.later hb).push (.cells #[.int .i64 P2, .int .i64 P3] 24))
  replace U := Lib.hid ((U.out.later hb).push (.cells #[.int .i64 P2, .int .i64 P3] 24))
  replace HE := Lib.hid (HE.out.push (.cells #[.int .i64 P2, .int .i64 P3] 24))
  have BD := Lib.hid (Blk.new w4 24 #[.int .i64 P2, .int .i64 P3])
  clear hE hb bc0 s0 s1 B0 BC2 kE HI
  by_cases hp4 : P4 = 0
  rotate_left
  · have e3 := HT.out
    rw [if_pos hp4] at e3
    subst e3
    clear HT
    have y0 := B1.out.at 0 _ rfl
    have y1 := B1.out.at 1 _ rfl
    have yz := B1.out.frozen
    go_wp2_with fail
    have Y1 := (B1.out.set_ 0 (.int .i64 0)).set_ 1 (.int .i64 0)
    refine bodyPost_ret (v := .tuple #[.slice none 0 0, .agg #[.int .i64 0, .int .i64 0], .int .u8 P4]) (res_tct Tryz.results8 rfl rfl (run_loadVar_row (P := Tryz.prog) _ _ _ _ _ _ _ Y1 Tryz.underlying24 rfl (by kernel_rfl)) rfl) rfl ⟨none, 0, rfl, IntsAt.nil, below_set_old (below_set_old U.out (by simp) _) (by simp) _⟩
  subst hp4
  replace HT := Lib.hid (HT.out.trans (if_neg (by simp)))
  have c0 := BD.out.at 0 _ rfl
  have c1 := BD.out.at 1 _ rfl
  have r0 := B1.out.at 0 _ rfl
  have r1 := B1.out.at 1 _ rfl
  have rz := B1.out.frozen
  go_upto_region 13 with fail
  go_region
  have RF := B1.out.set_ 0 (.int .i64 P2)
  have RG := RF.set_ 1 (.int .i64 P3)
  have q1 := RF.at 1 _ rfl
  have RE := (HE.out.set_ne r0 (by intro z e; cases e) (.int .i64 P2)).set_ne q1 (by intro z e; cases e) (.int .i64 P3)
  have UF := below_set_old (below_set_old U.out (by simp) (.int .i64 P2) (p := ⟨w.heap.size + 1, 0, none⟩)) (by simp) (.int .i64 P3) (p := ⟨w.heap.size + 1, 1, none⟩)
  go_wp2_with fail
  rw [HT.out]
  refine bodyPost_ret (v := .tuple #[.slice A4 EL.length c4, .agg #[.int .i64 P2, .int .i64 P3], .int .u8 0]) (res_tct Tryz.results8 rfl rfl (run_loadVar_row (P := Tryz.prog) _ _ _ _ _ _ _ RG.drew Tryz.underlying24 rfl (by kernel_rfl)) rfl) rfl ⟨A4, c4, rfl, ?_, UF.drew⟩
  exact RE.more (by simp [World.setCell])
end Go.Proofs.YtahbecinkciahaaGreat

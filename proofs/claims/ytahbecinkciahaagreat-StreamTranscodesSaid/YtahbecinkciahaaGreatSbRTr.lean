/- Layer 32: Transcode of the reference, and of the program, in one word each. -/
import Derived.Test.YtahbecinkciahaaGreatCmpLawsQ
import Derived.Test.YtahbecinkciahaaGreatJtPlainQ
import Derived.RegionTactic
namespace Go.Proofs.YtahbecinkciahaaGreat
open Go.RowKit
set_option linter.unusedVariables false
set_option linter.unusedSimpArgs false
attribute [local go_sem ↓] run_min_plain run_max_plain
attribute [local go_sem] setCell_drewN alloc_drewN
set_option maxRecDepth 100000 in
set_option maxHeartbeats 12800000 in
theorem rSpeech_any (k : Int) (w : World) : Calls Tryz.prog 37 #[.int .u8 k] w fun e w' => e = .returned (.bool (speechB k)) ∧ Below w.heap.size w w' := by
  by_cases h0 : k = 0
  · subst h0
    go_enter Tryz.func37, Tryz.ntmps37
    go_wp2_with fail
    go_ret
    exact ⟨rfl, Below.refl _ _⟩
  by_cases h8 : k = 8
  · subst h8
    go_enter Tryz.func37, Tryz.ntmps37
    go_wp2_with fail
    go_ret
    exact ⟨rfl, Below.refl _ _⟩
  by_cases h96 : k = 96
  · subst h96
    go_enter Tryz.func37, Tryz.ntmps37
    go_wp2_with fail
    go_ret
    exact ⟨rfl, Below.refl _ _⟩
  rw [speechB_f (by omega)]
  go_enter Tryz.func37, Tryz.ntmps37
  go_wp2_with fail
  go_ret
  exact ⟨by first | rfl | simp [h0, h8, h96], Below.refl _ _⟩
set_option maxRecDepth 100000 in
set_option maxHeartbeats 12800000 in
theorem rlaw_any (k : Int) (w : World) : Calls Tryz.prog 88 #[.int .u8 k] w fun e w' => e = .returned (.int .u8 (if k = 0 then 1 else 2)) ∧ Below w.heap.size w w' := by
  by_cases h0 : k = 0
  · subst h0
    go_enter Tryz.func88, Tryz.ntmps88
    go_wp2_with fail
    go_ret
    exact ⟨rfl, Below.refl _ _⟩
  rw [if_neg h0]
  go_enter Tryz.func88, Tryz.ntmps88
  go_wp2_with fail
  go_ret
  exact ⟨rfl, Below.refl _ _⟩
theorem IntsAt.set_ne2 {w : World} {B : Nat} {k : IntKind} {A : Option Addr} {zs : List Int} (h : IntsAt w B k A zs) {p : Addr} {v0 : Value} (hc : w.cell? p = some v0) (hk : ∀ z, v0 ≠ .int k z) (u : Value) : IntsAt (w.setCell p u) B k A zs := fun h0 => by
  obtain ⟨b, off, e, hlt, hcell⟩ := h h0
  refine ⟨b, off, e, hlt, fun i hi => ?_⟩
  rw [World.cell?_setCell_other w p ⟨b, off + i, none⟩ u (fun e2 => ?_)]
  · exact hcell i hi
  · have := hcell i hi
    first
      | (rw [e2, hc] at this; injection this with this; exact hk _ this)
      | (rw [← e2, hc] at this; injection this with this; exact hk _ this)
def RDecR (d : List Int × Int) (w : World) (e : Ending) (w' : World) : Prop := ∃ (A' : Option Addr) (c' : Nat), e = .returned (.tuple #[.slice A' d.1.length c', .int .u8 d.2]) ∧ IntsAt w' w'.heap.size .i16 A' d.1 ∧ Below w.heap.size w w'
def REncR (d : List Int × (Int × Int) × Int) (w : World) (e : Ending) (w' : World) : Prop := ∃ (A' : Option Addr) (c' : Nat), e = .returned (.tuple #[.slice A' d.1.length c', .agg #[.int .i64 d.2.1.1, .int .i64 d.2.1.2], .int .u8 d.2.2]) ∧ IntsAt w' w'.heap.size .u8 A' d.1 ∧ Below w.heap.size w w'
set_option maxRecDepth 100000 in
set_option maxHeartbeats 12800000 in
theorem rdec_0 (n : Int) (A : Option Addr) (bs : List Int) (c : Nat) (w : World) (hA : IntsAt w w.heap.size .u8 A bs) (hz : Within 0 255 bs) (h8 : bs.length ≤ 8000) (hc : bs.length ≤ c) : Calls Tryz.prog 32 #[.int .u8 0, .slice A bs.length c, .int .i64 n] w (RDecR (Sb.decE 0 bs n) w) := by
  have e1 : Sb.decE 0 bs n = (bs.map Cmp.fromMuZ, 0) := by unfold Sb.decE; rw [if_pos rfl]
  rw [e1]
  clear e1
  have kU := Lib.hid fun (W : World) hW => rUnpack_all 1 A bs c W hW hz
  rw [show unpackOut 1 bs = bs.map Cmp.fromMuZ by unfold unpackOut; rw [if_pos ⟨rfl, h8⟩], show packErr 1 bs.length = 0 by unfold packErr; rw [if_neg (by decide), if_neg (by omega)]] at kU
  obtain ⟨ZL, hZL⟩ : ∃ Z, Z = bs.map Cmp.fromMuZ := ⟨_, rfl⟩
  rw [← hZL] at kU ⊢
  clear hZL
  have HA := Lib.hid hA
  clear hA hz
  go_enter Tryz.func32, Tryz.ntmps32
  go_wp2_with fail
  refine (rlaw_any 0 _).mono ?_
  rintro e w1 ⟨rfl, hb1⟩
  have U := Lib.hid (Bel.later (Bel.refl w) hb1)
  replace HA := Lib.hid (HA.out.later hb1)
  clear hb1
  rw [if_pos rfl]
  go_wp2_with fail
  refine (kU.out _ HA.out).mono ?_
  rintro e w2 ⟨A2, c2, rfl, hI, hb2⟩
  have U2 := Lib.hid (U.out.later hb2)
  have HI := Lib.hid hI
  clear hI hb2 kU
  go_wp2_with fail
  exact bodyPost_ret (v := .tuple #[.slice A2 ZL.length c2, .int .u8 0]) (by simp [results, Tryz.results32, go_sem]) rfl ⟨A2, c2, rfl, HI.out, U2.out⟩
set_option maxRecDepth 100000 in
set_option maxHeartbeats 12800000 in
theorem rdec_8 (n : Int) (A : Option Addr) (bs : List Int) (c : Nat) (w : World) (hA : IntsAt w w.heap.size .u8 A bs) (hz : Within 0 255 bs) (h8 : bs.length ≤ 8000) (hc : bs.length ≤ c) : Calls Tryz.prog 32 #[.int .u8 8, .slice A bs.length c, .int .i64 n] w (RDecR (Sb.decE 8 bs n) w) := by
  have e1 : Sb.decE 8 bs n = (bs.map Cmp.fromAZ, 0) := by unfold Sb.decE; rw [if_neg (by decide), if_pos rfl]
  rw [e1]
  clear e1
  have kU := Lib.hid fun (W : World) hW => rUnpack_all 2 A bs c W hW hz
  rw [show unpackOut 2 bs = bs.map Cmp.fromAZ by unfold unpackOut; rw [if_neg (fun h => absurd h.1 (by decide)), if_pos ⟨rfl, h8⟩], show packErr 2 bs.length = 0 by unfold packErr; rw [if_neg (by decide), if_neg (by omega)]] at kU
  obtain ⟨ZL, hZL⟩ : ∃ Z, Z = bs.map Cmp.fromAZ := ⟨_, rfl⟩
  rw [← hZL] at kU ⊢
  clear hZL
  have HA := Lib.hid hA
  clear hA hz
  go_enter Tryz.func32, Tryz.ntmps32
  go_wp2_with fail
  refine (rlaw_any 8 _).mono ?_
  rintro e w1 ⟨rfl, hb1⟩
  have U := Lib.hid (Bel.later (Bel.refl w) hb1)
  replace HA := Lib.hid (HA.out.later hb1)
  clear hb1
  rw [if_neg (by decide)]
  go_wp2_with fail
  refine (kU.out _ HA.out).mono ?_
  rintro e w2 ⟨A2, c2, rfl, hI, hb2⟩
  have U2 := Lib.hid (U.out.later hb2)
  have HI := Lib.hid hI
  clear hI hb2 kU
  go_wp2_with fail
  exact bodyPost_ret (v := .tuple #[.slice A2 ZL.length c2, .int .u8 0]) (by simp [results, Tryz.results32, go_sem]) rfl ⟨A2, c2, rfl, HI.out, U2.out⟩
set_option maxRecDepth 100000 in
set_option maxHeartbeats 12800000 in
theorem rdec_96 (n : Int) (A : Option Addr) (bs : List Int) (c : Nat) (w : World) (hA : IntsAt w w.heap.size .u8 A bs) (hz : Within 0 255 bs) (h8 : bs.length ≤ 8000) (hc : bs.length ≤ c) : Calls Tryz.prog 32 #[.int .u8 96, .slice A bs.length c, .int .i64 n] w (RDecR (Sb.decE 96 bs n) w) := by
  have e1 : Sb.decE 96 bs n = ((Dlt.unpR bs n).1, (Dlt.unpR bs n).2.2.2) := by unfold Sb.decE; rw [if_neg (by decide), if_neg (by decide)]
  rw [e1]
  clear e1
  have hm : bs.length ≤ maxLen := by unfold maxLen; omega
  have kU := Lib.hid fun (W : World) hW => rUnpack_any W A c bs n hW hz hc hm
  generalize Dlt.unpR bs n = R at *
  obtain ⟨ZL, R2, R3, R4⟩ := R
  dsimp only at kU ⊢
  have HA := Lib.hid hA
  clear hA hz
  go_enter Tryz.func32, Tryz.ntmps32
  go_wp2_with fail
  refine (kU.out _ HA.out).mono ?_
  rintro e w2 ⟨A2, c2, rfl, hI, hb2⟩
  have U2 := Lib.hid ((Bel.later (Bel.refl w) hb2).push (.cells #[.int .i64 R2, .int .i64 R3] 24))
  have HI := Lib.hid (hI.push (.cells #[.int .i64 R2, .int .i64 R3] 24))
  clear hI hb2 kU
  go_wp2_with fail
  exact bodyPost_ret (v := .tuple #[.slice A2 ZL.length c2, .int .u8 R4]) (by simp [results, Tryz.results32, go_sem]) rfl ⟨A2, c2, rfl, HI.out, U2.out⟩
set_option maxRecDepth 100000 in
set_option maxHeartbeats 12800000 in
theorem renc_0 (v i : Int) (A : Option Addr) (zs : List Int) (c : Nat) (w : World) (hA : IntsAt w w.heap.size .i16 A zs) (hz : Within (-32768) 32767 zs) (h8 : zs.length ≤ 8000) : Calls Tryz.prog 31 #[.int .u8 0, .slice A zs.length c, .agg #[.int .i64 v, .int .i64 i]] w (REncR (Sb.encE 0 v i zs) w) := by
  have e1 : Sb.encE 0 v i zs = (zs.map Cmp.muZ, (v, i), 0) := by unfold Sb.encE; rw [if_pos rfl]
  rw [e1]
  clear e1
  have kU := Lib.hid fun (W : World) hW => rPack_all 1 A zs c W hW hz
  rw [show packOut 1 zs = zs.map Cmp.muZ by unfold packOut; rw [if_pos ⟨rfl, h8⟩], show packErr 1 zs.length = 0 by unfold packErr; rw [if_neg (by decide), if_neg (by omega)]] at kU
  obtain ⟨EL, hEL⟩ : ∃ Z, Z = zs.map Cmp.muZ := ⟨_, rfl⟩
  rw [← hEL] at kU ⊢
  clear hEL
  have HA := Lib.hid hA
  clear hA hz
  have B0 := Lib.hid ((Blk.new w 24 #[.int .i64 v, .int .i64 i]).push (.cells #[.int .i64 0, .int .i64 0] 24))
  have B1 := Lib.hid (Blk.new1 w (.cells #[.int .i64 v, .int .i64 i] 24) 24 #[.int .i64 0, .int .i64 0])
  have U := Lib.hid (((Bel.refl w).push (.cells #[.int .i64 v, .int .i64 i] 24)).push (.cells #[.int .i64 0, .int .i64 0] 24))
  replace HA := Lib.hid ((HA.out.push (.cells #[.int .i64 v, .int .i64 i] 24)).push (.cells #[.int .i64 0, .int .i64 0] 24))
  go_enter Tryz.func31, Tryz.ntmps31
  go_upto_region 1 with fail
  change Code.wp _ _ _ _ ((w.alloc (Obj.cells #[.int .i64 v, .int .i64 i] 24)).alloc (Obj.cells #[.int .i64 0, .int .i64 0] 24))
  obtain ⟨W, hW⟩ : ∃ W, W = (w.alloc (Obj.cells #[.int .i64 v, .int .i64 i] 24)).alloc (Obj.cells #[.int .i64 0, .int .i64 0] 24) := ⟨_, rfl⟩
  rw [← hW] at HA B0 B1 U ⊢
  clear hW
  go_wp2_with fail
  refine (rlaw_any 0 _).mono ?_
  rintro e w1 ⟨rfl, hb⟩
  replace HA := Lib.hid (HA.out.later hb)
  replace B0 := Lib.hid (B0.out.later hb)
  replace B1 := Lib.hid (B1.out.later hb)
  replace U := Lib.hid (U.out.later hb)
  clear hb
  rw [if_pos rfl]
  go_wp2_with fail
  refine (kU.out _ HA.out).mono ?_
  rintro e w2 ⟨A2, c2, rfl, hI, hb⟩
  have HE := Lib.hid hI
  replace B0 := Lib.hid (B0.out.later hb)
  replace B1 := Lib.hid (B1.out.later hb)
  replace U := Lib.hid (U.out.later hb)
  clear hI hb kU HA
  have c0 := B0.out.at 0 _ rfl
  have c1 := B0.out.at 1 _ rfl
  have r0 := B1.out.at 0 _ rfl
  have r1 := B1.out.at 1 _ rfl
  have rz := B1.out.frozen
  go_upto_region 4 with fail
  go_region
  have RF := B1.out.set_ 0 (.int .i64 v)
  have RG := RF.set_ 1 (.int .i64 i)
  have q1 := RF.at 1 _ rfl
  have UF := below_set_old (below_set_old U.out (by simp) (.int .i64 v) (p := ⟨w.heap.size + 1, 0, none⟩)) (by simp) (.int .i64 i) (p := ⟨w.heap.size + 1, 1, none⟩)
  have RE := (HE.out.set_ne2 r0 (by intro z e; cases e) (.int .i64 v)).set_ne2 q1 (by intro z e; cases e) (.int .i64 i)
  go_wp2_with fail
  refine bodyPost_ret (v := .tuple #[.slice A2 EL.length c2, .agg #[.int .i64 v, .int .i64 i], .int .u8 0]) (res_tct Tryz.results31 rfl rfl (run_loadVar_row (P := Tryz.prog) _ _ _ _ _ _ _ RG.drew Tryz.underlying24 rfl (by kernel_rfl)) rfl) rfl ⟨A2, c2, rfl, ?_, UF.drew⟩
  exact RE.more (by simp [World.setCell])
set_option maxRecDepth 100000 in
set_option maxHeartbeats 12800000 in
theorem renc_8 (v i : Int) (A : Option Addr) (zs : List Int) (c : Nat) (w : World) (hA : IntsAt w w.heap.size .i16 A zs) (hz : Within (-32768) 32767 zs) (h8 : zs.length ≤ 8000) : Calls Tryz.prog 31 #[.int .u8 8, .slice A zs.length c, .agg #[.int .i64 v, .int .i64 i]] w (REncR (Sb.encE 8 v i zs) w) := by
  have e1 : Sb.encE 8 v i zs = (zs.map Cmp.aZ, (v, i), 0) := by unfold Sb.encE; rw [if_neg (by decide), if_pos rfl]
  rw [e1]
  clear e1
  have kU := Lib.hid fun (W : World) hW => rPack_all 2 A zs c W hW hz
  rw [show packOut 2 zs = zs.map Cmp.aZ by unfold packOut; rw [if_neg (fun h => absurd h.1 (by decide)), if_pos ⟨rfl, h8⟩], show packErr 2 zs.length = 0 by unfold packErr; rw [if_neg (by decide), if_neg (by omega)]] at kU
  obtain ⟨EL, hEL⟩ : ∃ Z, Z = zs.map Cmp.aZ := ⟨_, rfl⟩
  rw [← hEL] at kU ⊢
  clear hEL
  have HA := Lib.hid hA
  clear hA hz
  have B0 := Lib.hid ((Blk.new w 24 #[.int .i64 v, .int .i64 i]).push (.cells #[.int .i64 0, .int .i64 0] 24))
  have B1 := Lib.hid (Blk.new1 w (.cells #[.int .i64 v, .int .i64 i] 24) 24 #[.int .i64 0, .int .i64 0])
  have U := Lib.hid (((Bel.refl w).push (.cells #[.int .i64 v, .int .i64 i] 24)).push (.cells #[.int .i64 0, .int .i64 0] 24))
  replace HA := Lib.hid ((HA.out.push (.cells #[.int .i64 v, .int .i64 i] 24)).push (.cells #[.int .i64 0, .int .i64 0] 24))
  go_enter Tryz.func31, Tryz.ntmps31
  go_upto_region 1 with fail
  change Code.wp _ _ _ _ ((w.alloc (Obj.cells #[.int .i64 v, .int .i64 i] 24)).alloc (Obj.cells #[.int .i64 0, .int .i64 0] 24))
  obtain ⟨W, hW⟩ : ∃ W, W = (w.alloc (Obj.cells #[.int .i64 v, .int .i64 i] 24)).alloc (Obj.cells #[.int .i64 0, .int .i64 0] 24) := ⟨_, rfl⟩
  rw [← hW] at HA B0 B1 U ⊢
  clear hW
  go_wp2_with fail
  refine (rlaw_any 8 _).mono ?_
  rintro e w1 ⟨rfl, hb⟩
  replace HA := Lib.hid (HA.out.later hb)
  replace B0 := Lib.hid (B0.out.later hb)
  replace B1 := Lib.hid (B1.out.later hb)
  replace U := Lib.hid (U.out.later hb)
  clear hb
  rw [if_neg (by decide)]
  go_wp2_with fail
  refine (kU.out _ HA.out).mono ?_
  rintro e w2 ⟨A2, c2, rfl, hI, hb⟩
  have HE := Lib.hid hI
  replace B0 := Lib.hid (B0.out.later hb)
  replace B1 := Lib.hid (B1.out.later hb)
  replace U := Lib.hid (U.out.later hb)
  clear hI hb kU HA
  have c0 := B0.out.at 0 _ rfl
  have c1 := B0.out.at 1 _ rfl
  have r0 := B1.out.at 0 _ rfl
  have r1 := B1.out.at 1 _ rfl
  have rz := B1.out.frozen
  go_upto_region 4 with fail
  go_region
  have RF := B1.out.set_ 0 (.int .i64 v)
  have RG := RF.set_ 1 (.int .i64 i)
  have q1 := RF.at 1 _ rfl
  have UF := below_set_old (below_set_old U.out (by simp) (.int .i64 v) (p := ⟨w.heap.size + 1, 0, none⟩)) (by simp) (.int .i64 i) (p := ⟨w.heap.size + 1, 1, none⟩)
  have RE := (HE.out.set_ne2 r0 (by intro z e; cases e) (.int .i64 v)).set_ne2 q1 (by intro z e; cases e) (.int .i64 i)
  go_wp2_with fail
  refine bodyPost_ret (v := .tuple #[.slice A2 EL.length c2, .agg #[.int .i64 v, .int .i64 i], .int .u8 0]) (res_tct Tryz.results31 rfl rfl (run_loadVar_row (P := Tryz.prog) _ _ _ _ _ _ _ RG.drew Tryz.underlying24 rfl (by kernel_rfl)) rfl) rfl ⟨A2, c2, rfl, ?_, UF.drew⟩
  exact RE.more (by simp [World.setCell])
set_option maxRecDepth 100000 in
set_option maxHeartbeats 12800000 in
theorem renc_96 (v i : Int) (A : Option Addr) (zs : List Int) (c : Nat) (w : World) (hA : IntsAt w w.heap.size .i16 A zs) (hz : Within (-32768) 32767 zs) (h8 : zs.length ≤ 8000) : Calls Tryz.prog 31 #[.int .u8 96, .slice A zs.length c, .agg #[.int .i64 v, .int .i64 i]] w (REncR (Sb.encE 96 v i zs) w) := by
  have e1 : Sb.encE 96 v i zs = ((Dlt.packR v i zs).1, ((Dlt.packR v i zs).2.1, (Dlt.packR v i zs).2.2.1), (Dlt.packR v i zs).2.2.2) := by unfold Sb.encE; rw [if_neg (by decide), if_neg (by decide)]
  rw [e1]
  clear e1
  have kU := Lib.hid fun (W : World) hW => rPack_any v i W A zs c hW hz
  generalize Dlt.packR v i zs = P at *
  obtain ⟨EL, P2, P3, P4⟩ := P
  dsimp only at kU ⊢
  have HA := Lib.hid hA
  clear hA hz
  have B0 := Lib.hid ((Blk.new w 24 #[.int .i64 v, .int .i64 i]).push (.cells #[.int .i64 0, .int .i64 0] 24))
  have B1 := Lib.hid (Blk.new1 w (.cells #[.int .i64 v, .int .i64 i] 24) 24 #[.int .i64 0, .int .i64 0])
  have U := Lib.hid (((Bel.refl w).push (.cells #[.int .i64 v, .int .i64 i] 24)).push (.cells #[.int .i64 0, .int .i64 0] 24))
  replace HA := Lib.hid ((HA.out.push (.cells #[.int .i64 v, .int .i64 i] 24)).push (.cells #[.int .i64 0, .int .i64 0] 24))
  go_enter Tryz.func31, Tryz.ntmps31
  go_upto_region 1 with fail
  change Code.wp _ _ _ _ ((w.alloc (Obj.cells #[.int .i64 v, .int .i64 i] 24)).alloc (Obj.cells #[.int .i64 0, .int .i64 0] 24))
  obtain ⟨W, hW⟩ : ∃ W, W = (w.alloc (Obj.cells #[.int .i64 v, .int .i64 i] 24)).alloc (Obj.cells #[.int .i64 0, .int .i64 0] 24) := ⟨_, rfl⟩
  rw [← hW] at HA B0 B1 U ⊢
  clear hW
  have s0 := B0.out.at 0 _ rfl
  have s1 := B0.out.at 1 _ rfl
  go_upto_region 2 with fail
  go_wp2_with fail
  refine (kU.out _ HA.out).mono ?_
  rintro e w2 ⟨A2, c2, rfl, hI, hb⟩
  have HE := Lib.hid hI
  replace B1 := Lib.hid (B1.out.later hb)
  replace U := Lib.hid (U.out.later hb)
  clear hI hb kU HA s0 s1 B0
  have r0 := B1.out.at 0 _ rfl
  have r1 := B1.out.at 1 _ rfl
  have rz := B1.out.frozen
  have RF := B1.out.set_ 0 (.int .i64 P2)
  have RG := RF.set_ 1 (.int .i64 P3)
  have q1 := RF.at 1 _ rfl
  have UF := below_set_old (below_set_old U.out (by simp) (.int .i64 P2) (p := ⟨w.heap.size + 1, 0, none⟩)) (by simp) (.int .i64 P3) (p := ⟨w.heap.size + 1, 1, none⟩)
  have RE := (HE.out.set_ne2 r0 (by intro z e; cases e) (.int .i64 P2)).set_ne2 q1 (by intro z e; cases e) (.int .i64 P3)
  go_wp2_with fail
  refine bodyPost_ret (v := .tuple #[.slice A2 EL.length c2, .agg #[.int .i64 P2, .int .i64 P3], .int .u8 P4]) (res_tct Tryz.results31 rfl rfl (run_loadVar_row (P := Tryz.prog) _ _ _ _ _ _ _ RG Tryz.underlying24 rfl (by kernel_rfl)) rfl) rfl ⟨A2, c2, rfl, ?_, UF⟩
  exact RE.more (by simp [World.setCell])
theorem rdec_any (k : Int) (hk : speechB k = true) (n : Int) (A : Option Addr) (bs : List Int) (c : Nat) (w : World) (hA : IntsAt w w.heap.size .u8 A bs) (hz : Within 0 255 bs) (h8 : bs.length ≤ 8000) (hc : bs.length ≤ c) : Calls Tryz.prog 32 #[.int .u8 k, .slice A bs.length c, .int .i64 n] w (RDecR (Sb.decE k bs n) w) := by
  rcases speechB_iff.1 hk with rfl | rfl | rfl
  · exact rdec_0 n A bs c w hA hz h8 hc
  · exact rdec_8 n A bs c w hA hz h8 hc
  · exact rdec_96 n A bs c w hA hz h8 hc
theorem renc_any (k : Int) (hk : speechB k = true) (v i : Int) (A : Option Addr) (zs : List Int) (c : Nat) (w : World) (hA : IntsAt w w.heap.size .i16 A zs) (hz : Within (-32768) 32767 zs) (h8 : zs.length ≤ 8000) : Calls Tryz.prog 31 #[.int .u8 k, .slice A zs.length c, .agg #[.int .i64 v, .int .i64 i]] w (REncR (Sb.encE k v i zs) w) := by
  rcases speechB_iff.1 hk with rfl | rfl | rfl
  · exact renc_0 v i A zs c w hA hz h8
  · exact renc_8 v i A zs c w hA hz h8
  · exact renc_96 v i A zs c w hA hz h8
theorem unpR_len2 (bs : List Int) (n : Int) : (Dlt.unpR bs n).1.length ≤ 8000 := by
  unfold Dlt.unpR
  split
  · simp
  · split
    · simp
    · split
      · simp only [Dlt.unpackL_len]; omega
      · simp
theorem unpR_in2 (bs : List Int) (n : Int) (hz : Within 0 255 bs) : Within (-32768) 32767 (Dlt.unpR bs n).1 := by
  unfold Dlt.unpR
  split
  · intro z h; cases h
  · split
    · intro z h; cases h
    · split
      · rename_i hk
        intro z h
        obtain ⟨j, _, rfl⟩ := List.mem_map.1 h
        have h1 := Dlt.dAt_valid (Dlt.headS bs) (Dlt.headS_valid bs n.toNat hk hz) bs (j + 1)
        simp [Dlt.valid] at h1
        omega
      · intro z h; cases h
theorem decE_ok (k : Int) (bs : List Int) (n : Int) (hz : Within 0 255 bs) (h8 : bs.length ≤ 8000) : Within (-32768) 32767 (Sb.decE k bs n).1 ∧ (Sb.decE k bs n).1.length ≤ 8000 := by
  unfold Sb.decE
  split
  · exact ⟨within_map hz fromMuZ_bd, by show (bs.map _).length ≤ 8000; rw [List.length_map]; exact h8⟩
  · split
    · exact ⟨within_map hz fromAZ_bd, by show (bs.map _).length ≤ 8000; rw [List.length_map]; exact h8⟩
    · exact ⟨unpR_in2 bs n hz, unpR_len2 bs n⟩
set_option maxRecDepth 100000 in
set_option maxHeartbeats 12800000 in
theorem rtran_1 (a b : Int) (A : Option Addr) (bs : List Int) (c : Nat) (v i : Int) (w : World) (hA : IntsAt w w.heap.size .u8 A bs) (hz : Within 0 255 bs) (h8 : bs.length ≤ 5000) (hc : bs.length ≤ c) (ha : speechB a = false) : Calls Tryz.prog 9 #[.int .u8 a, .int .u8 b, .slice A bs.length c, .agg #[.int .i64 v, .int .i64 i]] w (REncR ([], (0, 0), 15) w) := by
  have kS1 := Lib.hid fun W => rSpeech_any a W
  have kS2 := Lib.hid fun W => rSpeech_any b W
  rw [ha] at kS1
  have HA := Lib.hid hA
  clear hA hz ha kS2
  have B0 := Lib.hid ((Blk.new w 24 #[.int .i64 v, .int .i64 i]).push (.cells #[.int .i64 0, .int .i64 0] 24))
  have B1 := Lib.hid (Blk.new1 w (.cells #[.int .i64 v, .int .i64 i] 24) 24 #[.int .i64 0, .int .i64 0])
  have U := Lib.hid (((Bel.refl w).push (.cells #[.int .i64 v, .int .i64 i] 24)).push (.cells #[.int .i64 0, .int .i64 0] 24))
  replace HA := Lib.hid ((HA.out.push (.cells #[.int .i64 v, .int .i64 i] 24)).push (.cells #[.int .i64 0, .int .i64 0] 24))
  go_enter Tryz.func9, Tryz.ntmps9
  go_upto_region 1 with fail
  change Code.wp _ _ _ _ ((w.alloc (Obj.cells #[.int .i64 v, .int .i64 i] 24)).alloc (Obj.cells #[.int .i64 0, .int .i64 0] 24))
  obtain ⟨W, hW⟩ : ∃ W, W = (w.alloc (Obj.cells #[.int .i64 v, .int .i64 i] 24)).alloc (Obj.cells #[.int .i64 0, .int .i64 0] 24) := ⟨_, rfl⟩
  rw [← hW] at HA B0 B1 U ⊢
  clear hW
  go_wp2_with fail
  refine (kS1.out _).mono ?_
  rintro e w1 ⟨rfl, hb⟩
  replace HA := Lib.hid (HA.out.later hb)
  replace B0 := Lib.hid (B0.out.later hb)
  replace B1 := Lib.hid (B1.out.later hb)
  replace U := Lib.hid (U.out.later hb)
  clear hb kS1
  have r0 := B1.out.at 0 _ rfl
  have r1 := B1.out.at 1 _ rfl
  have rz := B1.out.frozen
  have RF := B1.out.set_ 0 (.int .i64 0)
  have RG := RF.set_ 1 (.int .i64 0)
  have q1 := RF.at 1 _ rfl
  have UF := below_set_old (below_set_old U.out (by simp) (.int .i64 0) (p := ⟨w.heap.size + 1, 0, none⟩)) (by simp) (.int .i64 0) (p := ⟨w.heap.size + 1, 1, none⟩)
  go_wp2_with fail
  refine bodyPost_ret (v := .tuple #[.slice none 0 0, .agg #[.int .i64 0, .int .i64 0], .int .u8 15]) (res_tct Tryz.results9 rfl rfl (run_loadVar_row (P := Tryz.prog) _ _ _ _ _ _ _ RG Tryz.underlying24 rfl (by kernel_rfl)) rfl) rfl ⟨none, 0, rfl, ?_, UF⟩
  exact IntsAt.nil
set_option maxRecDepth 100000 in
set_option maxHeartbeats 12800000 in
theorem rtran_2 (a b : Int) (A : Option Addr) (bs : List Int) (c : Nat) (v i : Int) (w : World) (hA : IntsAt w w.heap.size .u8 A bs) (hz : Within 0 255 bs) (h8 : bs.length ≤ 5000) (hc : bs.length ≤ c) (ha : speechB a = true) (hb2 : speechB b = false) : Calls Tryz.prog 9 #[.int .u8 a, .int .u8 b, .slice A bs.length c, .agg #[.int .i64 v, .int .i64 i]] w (REncR ([], (0, 0), 15) w) := by
  have kS1 := Lib.hid fun W => rSpeech_any a W
  have kS2 := Lib.hid fun W => rSpeech_any b W
  rw [ha] at kS1
  rw [hb2] at kS2
  have HA := Lib.hid hA
  clear hA hz ha hb2
  have B0 := Lib.hid ((Blk.new w 24 #[.int .i64 v, .int .i64 i]).push (.cells #[.int .i64 0, .int .i64 0] 24))
  have B1 := Lib.hid (Blk.new1 w (.cells #[.int .i64 v, .int .i64 i] 24) 24 #[.int .i64 0, .int .i64 0])
  have U := Lib.hid (((Bel.refl w).push (.cells #[.int .i64 v, .int .i64 i] 24)).push (.cells #[.int .i64 0, .int .i64 0] 24))
  replace HA := Lib.hid ((HA.out.push (.cells #[.int .i64 v, .int .i64 i] 24)).push (.cells #[.int .i64 0, .int .i64 0] 24))
  go_enter Tryz.func9, Tryz.ntmps9
  go_upto_region 1 with fail
  change Code.wp _ _ _ _ ((w.alloc (Obj.cells #[.int .i64 v, .int .i64 i] 24)).alloc (Obj.cells #[.int .i64 0, .int .i64 0] 24))
  obtain ⟨W, hW⟩ : ∃ W, W = (w.alloc (Obj.cells #[.int .i64 v, .int .i64 i] 24)).alloc (Obj.cells #[.int .i64 0, .int .i64 0] 24) := ⟨_, rfl⟩
  rw [← hW] at HA B0 B1 U ⊢
  clear hW
  go_wp2_with fail
  refine (kS1.out _).mono ?_
  rintro e w1 ⟨rfl, hb⟩
  replace HA := Lib.hid (HA.out.later hb)
  replace B0 := Lib.hid (B0.out.later hb)
  replace B1 := Lib.hid (B1.out.later hb)
  replace U := Lib.hid (U.out.later hb)
  clear hb kS1
  go_wp2_with fail
  refine (kS2.out _).mono ?_
  rintro e w2 ⟨rfl, hb⟩
  replace HA := Lib.hid (HA.out.later hb)
  replace B0 := Lib.hid (B0.out.later hb)
  replace B1 := Lib.hid (B1.out.later hb)
  replace U := Lib.hid (U.out.later hb)
  clear hb kS2
  have r0 := B1.out.at 0 _ rfl
  have r1 := B1.out.at 1 _ rfl
  have rz := B1.out.frozen
  have RF := B1.out.set_ 0 (.int .i64 0)
  have RG := RF.set_ 1 (.int .i64 0)
  have q1 := RF.at 1 _ rfl
  have UF := below_set_old (below_set_old U.out (by simp) (.int .i64 0) (p := ⟨w.heap.size + 1, 0, none⟩)) (by simp) (.int .i64 0) (p := ⟨w.heap.size + 1, 1, none⟩)
  go_wp2_with fail
  refine bodyPost_ret (v := .tuple #[.slice none 0 0, .agg #[.int .i64 0, .int .i64 0], .int .u8 15]) (res_tct Tryz.results9 rfl rfl (run_loadVar_row (P := Tryz.prog) _ _ _ _ _ _ _ RG Tryz.underlying24 rfl (by kernel_rfl)) rfl) rfl ⟨none, 0, rfl, ?_, UF⟩
  exact IntsAt.nil
set_option maxRecDepth 100000 in
set_option maxHeartbeats 12800000 in
theorem rtran_4 (a b : Int) (A : Option Addr) (bs : List Int) (c : Nat) (v i : Int) (w : World) (hA : IntsAt w w.heap.size .u8 A bs) (hz : Within 0 255 bs) (h8 : bs.length ≤ 5000) (hc : bs.length ≤ c) (ha : a = 96) (hb2 : speechB b = true) (h4 : bs.length < 4) : Calls Tryz.prog 9 #[.int .u8 a, .int .u8 b, .slice A bs.length c, .agg #[.int .i64 v, .int .i64 i]] w (REncR ([], (0, 0), 6) w) := by
  subst ha
  have kS1 := Lib.hid fun W => rSpeech_any 96 W
  have kS2 := Lib.hid fun W => rSpeech_any b W
  rw [show speechB 96 = true from rfl] at kS1
  rw [hb2] at kS2
  have h4i : (bs.length : Int) < 4 := by omega
  have HA := Lib.hid hA
  clear hA hz hb2
  have B0 := Lib.hid ((Blk.new w 24 #[.int .i64 v, .int .i64 i]).push (.cells #[.int .i64 0, .int .i64 0] 24))
  have B1 := Lib.hid (Blk.new1 w (.cells #[.int .i64 v, .int .i64 i] 24) 24 #[.int .i64 0, .int .i64 0])
  have U := Lib.hid (((Bel.refl w).push (.cells #[.int .i64 v, .int .i64 i] 24)).push (.cells #[.int .i64 0, .int .i64 0] 24))
  replace HA := Lib.hid ((HA.out.push (.cells #[.int .i64 v, .int .i64 i] 24)).push (.cells #[.int .i64 0, .int .i64 0] 24))
  go_enter Tryz.func9, Tryz.ntmps9
  go_upto_region 1 with fail
  change Code.wp _ _ _ _ ((w.alloc (Obj.cells #[.int .i64 v, .int .i64 i] 24)).alloc (Obj.cells #[.int .i64 0, .int .i64 0] 24))
  obtain ⟨W, hW⟩ : ∃ W, W = (w.alloc (Obj.cells #[.int .i64 v, .int .i64 i] 24)).alloc (Obj.cells #[.int .i64 0, .int .i64 0] 24) := ⟨_, rfl⟩
  rw [← hW] at HA B0 B1 U ⊢
  clear hW
  go_wp2_with fail
  refine (kS1.out _).mono ?_
  rintro e w1 ⟨rfl, hb⟩
  replace HA := Lib.hid (HA.out.later hb)
  replace B0 := Lib.hid (B0.out.later hb)
  replace B1 := Lib.hid (B1.out.later hb)
  replace U := Lib.hid (U.out.later hb)
  clear hb kS1
  go_wp2_with fail
  refine (kS2.out _).mono ?_
  rintro e w2 ⟨rfl, hb⟩
  replace HA := Lib.hid (HA.out.later hb)
  replace B0 := Lib.hid (B0.out.later hb)
  replace B1 := Lib.hid (B1.out.later hb)
  replace U := Lib.hid (U.out.later hb)
  clear hb kS2
  have r0 := B1.out.at 0 _ rfl
  have r1 := B1.out.at 1 _ rfl
  have rz := B1.out.frozen
  have RF := B1.out.set_ 0 (.int .i64 0)
  have RG := RF.set_ 1 (.int .i64 0)
  have q1 := RF.at 1 _ rfl
  have UF := below_set_old (below_set_old U.out (by simp) (.int .i64 0) (p := ⟨w.heap.size + 1, 0, none⟩)) (by simp) (.int .i64 0) (p := ⟨w.heap.size + 1, 1, none⟩)
  go_wp2_with fail
  refine bodyPost_ret (v := .tuple #[.slice none 0 0, .agg #[.int .i64 0, .int .i64 0], .int .u8 6]) (res_tct Tryz.results9 rfl rfl (run_loadVar_row (P := Tryz.prog) _ _ _ _ _ _ _ RG Tryz.underlying24 rfl (by kernel_rfl)) rfl) rfl ⟨none, 0, rfl, ?_, UF⟩
  exact IntsAt.nil
set_option maxRecDepth 100000 in
set_option maxHeartbeats 12800000 in
theorem rtran_5 (a b : Int) (A : Option Addr) (bs : List Int) (c : Nat) (v i : Int) (w : World) (hA : IntsAt w w.heap.size .u8 A bs) (hz : Within 0 255 bs) (h8 : bs.length ≤ 5000) (hc : bs.length ≤ c) (ha : speechB a = true) (hb2 : speechB b = true) (h96 : ¬a = 96) : Calls Tryz.prog 9 #[.int .u8 a, .int .u8 b, .slice A bs.length c, .agg #[.int .i64 v, .int .i64 i]] w (REncR (Sb.tran a b bs v i) w) := by
  obtain ⟨TT, hTT⟩ : ∃ T, T = Sb.tran a b bs v i := ⟨_, rfl⟩
  rw [← hTT]
  unfold Sb.tran at hTT
  rw [if_neg (by rw [ha, hb2]; simp), if_neg (fun h => h96 h.1)] at hTT
  have hok := decE_ok a bs (2 * ((bs.length : Int) - 4)) hz (by omega)
  have kS1 := Lib.hid fun W => rSpeech_any a W
  have kS2 := Lib.hid fun W => rSpeech_any b W
  rw [ha] at kS1
  rw [hb2] at kS2
  have kD := Lib.hid fun (W : World) hW => rdec_any a ha (2 * ((bs.length : Int) - 4)) A bs c W hW hz (by omega) hc
  generalize Sb.decE a bs (2 * ((bs.length : Int) - 4)) = D at *
  obtain ⟨ZL, D2⟩ := D
  dsimp only at hTT hok
  have kE := Lib.hid fun (A3 : Option Addr) (c3 : Nat) (W : World) hW => renc_any b hb2 v i A3 ZL c3 W hW hok.1 hok.2
  generalize Sb.encE b v i ZL = E at *
  obtain ⟨EL, ⟨E2, E3⟩, E4⟩ := E
  dsimp only at hTT
  unfold RDecR at kD
  unfold REncR at kE
  dsimp only at kD kE
  have HT := Lib.hid hTT
  have hnw : wrap64 (2 * ((bs.length : Int) - 4)) = 2 * ((bs.length : Int) - 4) := IntWalk.wrap64_in _ ⟨by omega, by omega⟩
  have HA := Lib.hid hA
  clear hA hz hTT hok ha hb2
  have B0 := Lib.hid ((Blk.new w 24 #[.int .i64 v, .int .i64 i]).push (.cells #[.int .i64 0, .int .i64 0] 24))
  have B1 := Lib.hid (Blk.new1 w (.cells #[.int .i64 v, .int .i64 i] 24) 24 #[.int .i64 0, .int .i64 0])
  have U := Lib.hid (((Bel.refl w).push (.cells #[.int .i64 v, .int .i64 i] 24)).push (.cells #[.int .i64 0, .int .i64 0] 24))
  replace HA := Lib.hid ((HA.out.push (.cells #[.int .i64 v, .int .i64 i] 24)).push (.cells #[.int .i64 0, .int .i64 0] 24))
  go_enter Tryz.func9, Tryz.ntmps9
  go_upto_region 1 with fail
  change Code.wp _ _ _ _ ((w.alloc (Obj.cells #[.int .i64 v, .int .i64 i] 24)).alloc (Obj.cells #[.int .i64 0, .int .i64 0] 24))
  obtain ⟨W, hW⟩ : ∃ W, W = (w.alloc (Obj.cells #[.int .i64 v, .int .i64 i] 24)).alloc (Obj.cells #[.int .i64 0, .int .i64 0] 24) := ⟨_, rfl⟩
  rw [← hW] at HA B0 B1 U ⊢
  clear hW
  go_wp2_with fail
  refine (kS1.out _).mono ?_
  rintro e w1 ⟨rfl, hb⟩
  replace HA := Lib.hid (HA.out.later hb)
  replace B0 := Lib.hid (B0.out.later hb)
  replace B1 := Lib.hid (B1.out.later hb)
  replace U := Lib.hid (U.out.later hb)
  clear hb kS1
  go_wp2_with fail
  refine (kS2.out _).mono ?_
  rintro e w2 ⟨rfl, hb⟩
  replace HA := Lib.hid (HA.out.later hb)
  replace B0 := Lib.hid (B0.out.later hb)
  replace B1 := Lib.hid (B1.out.later hb)
  replace U := Lib.hid (U.out.later hb)
  clear hb kS2
  go_wp2_with fail
  refine (kD.out _ HA.out).mono ?_
  rintro e w3 ⟨A3, c3, rfl, hI, hb⟩
  have HI := Lib.hid hI
  replace B0 := Lib.hid (B0.out.later hb)
  replace B1 := Lib.hid (B1.out.later hb)
  replace U := Lib.hid (U.out.later hb)
  clear hI hb HA kD hnw
  by_cases hd : D2 = 0
  rotate_left
  · have e3 := HT.out
    rw [if_pos hd] at e3
    subst e3
    clear HT
    have r0 := B1.out.at 0 _ rfl
    have r1 := B1.out.at 1 _ rfl
    have rz := B1.out.frozen
    have RF := B1.out.set_ 0 (.int .i64 0)
    have RG := RF.set_ 1 (.int .i64 0)
    have q1 := RF.at 1 _ rfl
    have UF := below_set_old (below_set_old U.out (by simp) (.int .i64 0) (p := ⟨w.heap.size + 1, 0, none⟩)) (by simp) (.int .i64 0) (p := ⟨w.heap.size + 1, 1, none⟩)
    go_wp2_with fail
    refine bodyPost_ret (v := .tuple #[.slice none 0 0, .agg #[.int .i64 0, .int .i64 0], .int .u8 D2]) (res_tct Tryz.results9 rfl rfl (run_loadVar_row (P := Tryz.prog) _ _ _ _ _ _ _ RG Tryz.underlying24 rfl (by kernel_rfl)) rfl) rfl ⟨none, 0, rfl, ?_, UF⟩
    exact IntsAt.nil
  subst hd
  replace HT := Lib.hid (HT.out.trans (if_neg (by simp)))
  have s0 := B0.out.at 0 _ rfl
  have s1 := B0.out.at 1 _ rfl
  go_wp2_with fail
  refine (kE.out A3 c3 _ HI.out).mono ?_
  rintro e w4 ⟨A4, c4, rfl, hE, hb⟩
  have HE := Lib.hid (hE.push (.cells #[.int .i64 E2, .int .i64 E3] 24))
  replace B1 := Lib.hid ((B1.out.later hb).push (.cells #[.int .i64 E2, .int .i64 E3] 24))
  replace U := Lib.hid ((U.out.later hb).push (.cells #[.int .i64 E2, .int .i64 E3] 24))
  have BD := Lib.hid (Blk.new w4 24 #[.int .i64 E2, .int .i64 E3])
  clear hE hb s0 s1 B0 kE HI
  by_cases hp4 : E4 = 0
  rotate_left
  · have e3 := HT.out
    rw [if_pos hp4] at e3
    subst e3
    clear HT
    have r0 := B1.out.at 0 _ rfl
    have r1 := B1.out.at 1 _ rfl
    have rz := B1.out.frozen
    have RF := B1.out.set_ 0 (.int .i64 0)
    have RG := RF.set_ 1 (.int .i64 0)
    have q1 := RF.at 1 _ rfl
    have UF := below_set_old (below_set_old U.out (by simp) (.int .i64 0) (p := ⟨w.heap.size + 1, 0, none⟩)) (by simp) (.int .i64 0) (p := ⟨w.heap.size + 1, 1, none⟩)
    go_wp2_with fail
    refine bodyPost_ret (v := .tuple #[.slice none 0 0, .agg #[.int .i64 0, .int .i64 0], .int .u8 E4]) (res_tct Tryz.results9 rfl rfl (run_loadVar_row (P := Tryz.prog) _ _ _ _ _ _ _ RG Tryz.underlying24 rfl (by kernel_rfl)) rfl) rfl ⟨none, 0, rfl, ?_, UF⟩
    exact IntsAt.nil
  subst hp4
  replace HT := Lib.hid (HT.out.trans (if_neg (by simp)))
  have c0 := BD.out.at 0 _ rfl
  have c1 := BD.out.at 1 _ rfl
  have r0 := B1.out.at 0 _ rfl
  have r1 := B1.out.at 1 _ rfl
  have rz := B1.out.frozen
  go_upto_region 11 with fail
  go_region
  have RF := B1.out.set_ 0 (.int .i64 E2)
  have RG := RF.set_ 1 (.int .i64 E3)
  have q1 := RF.at 1 _ rfl
  have UF := below_set_old (below_set_old U.out (by simp) (.int .i64 E2) (p := ⟨w.heap.size + 1, 0, none⟩)) (by simp) (.int .i64 E3) (p := ⟨w.heap.size + 1, 1, none⟩)
  have RE := (HE.out.set_ne2 r0 (by intro z e; cases e) (.int .i64 E2)).set_ne2 q1 (by intro z e; cases e) (.int .i64 E3)
  go_wp2_with fail
  rw [HT.out]
  refine bodyPost_ret (v := .tuple #[.slice A4 EL.length c4, .agg #[.int .i64 E2, .int .i64 E3], .int .u8 0]) (res_tct Tryz.results9 rfl rfl (run_loadVar_row (P := Tryz.prog) _ _ _ _ _ _ _ RG.drew Tryz.underlying24 rfl (by kernel_rfl)) rfl) rfl ⟨A4, c4, rfl, ?_, UF.drew⟩
  exact RE.more (by simp [World.setCell])
set_option maxRecDepth 100000 in
set_option maxHeartbeats 12800000 in
theorem rtran_6 (a b : Int) (A : Option Addr) (bs : List Int) (c : Nat) (v i : Int) (w : World) (hA : IntsAt w w.heap.size .u8 A bs) (hz : Within 0 255 bs) (h8 : bs.length ≤ 5000) (hc : bs.length ≤ c) (ha : speechB a = true) (hb2 : speechB b = true) (h96 : a = 96) (h4 : ¬bs.length < 4) : Calls Tryz.prog 9 #[.int .u8 a, .int .u8 b, .slice A bs.length c, .agg #[.int .i64 v, .int .i64 i]] w (REncR (Sb.tran a b bs v i) w) := by
  obtain ⟨TT, hTT⟩ : ∃ T, T = Sb.tran a b bs v i := ⟨_, rfl⟩
  rw [← hTT]
  unfold Sb.tran at hTT
  rw [if_neg (by rw [ha, hb2]; simp), if_neg (fun h => h4 h.2)] at hTT
  have hok := decE_ok a bs (2 * ((bs.length : Int) - 4)) hz (by omega)
  have kS1 := Lib.hid fun W => rSpeech_any a W
  have kS2 := Lib.hid fun W => rSpeech_any b W
  rw [ha] at kS1
  rw [hb2] at kS2
  have kD := Lib.hid fun (W : World) hW => rdec_any a ha (2 * ((bs.length : Int) - 4)) A bs c W hW hz (by omega) hc
  generalize Sb.decE a bs (2 * ((bs.length : Int) - 4)) = D at *
  obtain ⟨ZL, D2⟩ := D
  dsimp only at hTT hok
  have kE := Lib.hid fun (A3 : Option Addr) (c3 : Nat) (W : World) hW => renc_any b hb2 v i A3 ZL c3 W hW hok.1 hok.2
  generalize Sb.encE b v i ZL = E at *
  obtain ⟨EL, ⟨E2, E3⟩, E4⟩ := E
  dsimp only at hTT
  unfold RDecR at kD
  unfold REncR at kE
  dsimp only at kD kE
  have HT := Lib.hid hTT
  have hnw : wrap64 (2 * ((bs.length : Int) - 4)) = 2 * ((bs.length : Int) - 4) := IntWalk.wrap64_in _ ⟨by omega, by omega⟩
  have HA := Lib.hid hA
  clear hA hz hTT hok ha hb2
  have h4i : ¬(bs.length : Int) < 4 := by omega
  subst h96
  have B0 := Lib.hid ((Blk.new w 24 #[.int .i64 v, .int .i64 i]).push (.cells #[.int .i64 0, .int .i64 0] 24))
  have B1 := Lib.hid (Blk.new1 w (.cells #[.int .i64 v, .int .i64 i] 24) 24 #[.int .i64 0, .int .i64 0])
  have U := Lib.hid (((Bel.refl w).push (.cells #[.int .i64 v, .int .i64 i] 24)).push (.cells #[.int .i64 0, .int .i64 0] 24))
  replace HA := Lib.hid ((HA.out.push (.cells #[.int .i64 v, .int .i64 i] 24)).push (.cells #[.int .i64 0, .int .i64 0] 24))
  go_enter Tryz.func9, Tryz.ntmps9
  go_upto_region 1 with fail
  change Code.wp _ _ _ _ ((w.alloc (Obj.cells #[.int .i64 v, .int .i64 i] 24)).alloc (Obj.cells #[.int .i64 0, .int .i64 0] 24))
  obtain ⟨W, hW⟩ : ∃ W, W = (w.alloc (Obj.cells #[.int .i64 v, .int .i64 i] 24)).alloc (Obj.cells #[.int .i64 0, .int .i64 0] 24) := ⟨_, rfl⟩
  rw [← hW] at HA B0 B1 U ⊢
  clear hW
  go_wp2_with fail
  refine (kS1.out _).mono ?_
  rintro e w1 ⟨rfl, hb⟩
  replace HA := Lib.hid (HA.out.later hb)
  replace B0 := Lib.hid (B0.out.later hb)
  replace B1 := Lib.hid (B1.out.later hb)
  replace U := Lib.hid (U.out.later hb)
  clear hb kS1
  go_wp2_with fail
  refine (kS2.out _).mono ?_
  rintro e w2 ⟨rfl, hb⟩
  replace HA := Lib.hid (HA.out.later hb)
  replace B0 := Lib.hid (B0.out.later hb)
  replace B1 := Lib.hid (B1.out.later hb)
  replace U := Lib.hid (U.out.later hb)
  clear hb kS2
  go_wp2_with fail
  refine (kD.out _ HA.out).mono ?_
  rintro e w3 ⟨A3, c3, rfl, hI, hb⟩
  have HI := Lib.hid hI
  replace B0 := Lib.hid (B0.out.later hb)
  replace B1 := Lib.hid (B1.out.later hb)
  replace U := Lib.hid (U.out.later hb)
  clear hI hb HA kD hnw
  by_cases hd : D2 = 0
  rotate_left
  · have e3 := HT.out
    rw [if_pos hd] at e3
    subst e3
    clear HT
    have r0 := B1.out.at 0 _ rfl
    have r1 := B1.out.at 1 _ rfl
    have rz := B1.out.frozen
    have RF := B1.out.set_ 0 (.int .i64 0)
    have RG := RF.set_ 1 (.int .i64 0)
    have q1 := RF.at 1 _ rfl
    have UF := below_set_old (below_set_old U.out (by simp) (.int .i64 0) (p := ⟨w.heap.size + 1, 0, none⟩)) (by simp) (.int .i64 0) (p := ⟨w.heap.size + 1, 1, none⟩)
    go_wp2_with fail
    refine bodyPost_ret (v := .tuple #[.slice none 0 0, .agg #[.int .i64 0, .int .i64 0], .int .u8 D2]) (res_tct Tryz.results9 rfl rfl (run_loadVar_row (P := Tryz.prog) _ _ _ _ _ _ _ RG Tryz.underlying24 rfl (by kernel_rfl)) rfl) rfl ⟨none, 0, rfl, ?_, UF⟩
    exact IntsAt.nil
  subst hd
  replace HT := Lib.hid (HT.out.trans (if_neg (by simp)))
  have s0 := B0.out.at 0 _ rfl
  have s1 := B0.out.at 1 _ rfl
  go_wp2_with fail
  refine (kE.out A3 c3 _ HI.out).mono ?_
  rintro e w4 ⟨A4, c4, rfl, hE, hb⟩
  have HE := Lib.hid (hE.push (.cells #[.int .i64 E2, .int .i64 E3] 24))
  replace B1 := Lib.hid ((B1.out.later hb).push (.cells #[.int .i64 E2, .int .i64 E3] 24))
  replace U := Lib.hid ((U.out.later hb).push (.cells #[.int .i64 E2, .int .i64 E3] 24))
  have BD := Lib.hid (Blk.new w4 24 #[.int .i64 E2, .int .i64 E3])
  clear hE hb s0 s1 B0 kE HI
  by_cases hp4 : E4 = 0
  rotate_left
  · have e3 := HT.out
    rw [if_pos hp4] at e3
    subst e3
    clear HT
    have r0 := B1.out.at 0 _ rfl
    have r1 := B1.out.at 1 _ rfl
    have rz := B1.out.frozen
    have RF := B1.out.set_ 0 (.int .i64 0)
    have RG := RF.set_ 1 (.int .i64 0)
    have q1 := RF.at 1 _ rfl
    have UF := below_set_old (below_set_old U.out (by simp) (.int .i64 0) (p := ⟨w.heap.size + 1, 0, none⟩)) (by simp) (.int .i64 0) (p := ⟨w.heap.size + 1, 1, none⟩)
    go_wp2_with fail
    refine bodyPost_ret (v := .tuple #[.slice none 0 0, .agg #[.int .i64 0, .int .i64 0], .int .u8 E4]) (res_tct Tryz.results9 rfl rfl (run_loadVar_row (P := Tryz.prog) _ _ _ _ _ _ _ RG Tryz.underlying24 rfl (by kernel_rfl)) rfl) rfl ⟨none, 0, rfl, ?_, UF⟩
    exact IntsAt.nil
  subst hp4
  replace HT := Lib.hid (HT.out.trans (if_neg (by simp)))
  have c0 := BD.out.at 0 _ rfl
  have c1 := BD.out.at 1 _ rfl
  have r0 := B1.out.at 0 _ rfl
  have r1 := B1.out.at 1 _ rfl
  have rz := B1.out.frozen
  go_upto_region 11 with fail
  go_region
  have RF := B1.out.set_ 0 (.int .i64 E2)
  have RG := RF.set_ 1 (.int .i64 E3)
  have q1 := RF.at 1 _ rfl
  have UF := below_set_old (below_set_old U.out (by simp) (.int .i64 E2) (p := ⟨w.heap.size + 1, 0, none⟩)) (by simp) (.int .i64 E3) (p := ⟨w.heap.size + 1, 1, none⟩)
  have RE := (HE.out.set_ne2 r0 (by intro z e; cases e) (.int .i64 E2)).set_ne2 q1 (by intro z e; cases e) (.int .i64 E3)
  go_wp2_with fail
  rw [HT.out]
  refine bodyPost_ret (v := .tuple #[.slice A4 EL.length c4, .agg #[.int .i64 E2, .int .i64 E3], .int .u8 0]) (res_tct Tryz.results9 rfl rfl (run_loadVar_row (P := Tryz.prog) _ _ _ _ _ _ _ RG.drew Tryz.underlying24 rfl (by kernel_rfl)) rfl) rfl ⟨A4, c4, rfl, ?_, UF.drew⟩
  exact RE.more (by simp [World.setCell])
theorem rtran_any (a b : Int) (A : Option Addr) (bs : List Int) (c : Nat) (v i : Int) (w : World) (hA : IntsAt w w.heap.size .u8 A bs) (hz : Within 0 255 bs) (h8 : bs.length ≤ 5000) (hc : bs.length ≤ c) : Calls Tryz.prog 9 #[.int .u8 a, .int .u8 b, .slice A bs.length c, .agg #[.int .i64 v, .int .i64 i]] w (REncR (Sb.tran a b bs v i) w) := by
  by_cases ha : speechB a = true
  rotate_left
  · rw [show Sb.tran a b bs v i = ([], (0, 0), 15) by unfold Sb.tran; rw [if_pos (Or.inl (by simpa using ha))]]
    exact rtran_1 a b A bs c v i w hA hz h8 hc (by simpa using ha)
  by_cases hb : speechB b = true
  rotate_left
  · rw [show Sb.tran a b bs v i = ([], (0, 0), 15) by unfold Sb.tran; rw [if_pos (Or.inr (by simpa using hb))]]
    exact rtran_2 a b A bs c v i w hA hz h8 hc ha (by simpa using hb)
  by_cases h96 : a = 96
  · by_cases h4 : bs.length < 4
    · rw [show Sb.tran a b bs v i = ([], (0, 0), 6) by unfold Sb.tran; rw [if_neg (by rw [ha, hb]; simp), if_pos ⟨h96, h4⟩]]
      exact rtran_4 a b A bs c v i w hA hz h8 hc h96 hb h4
    · exact rtran_6 a b A bs c v i w hA hz h8 hc ha hb h96 h4
  · exact rtran_5 a b A bs c v i w hA hz h8 hc ha hb h96
end Go.Proofs.YtahbecinkciahaaGreat

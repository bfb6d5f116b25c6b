/- Layer 25: Decode of the reference. Layer 25: Decode of the reference. Layer 25: Decode of the reference, for any bytes. -/
import Derived.Test.YtbpcpgmbfnmacaaPkRDecR
import Derived.Test.YtbpcpgmbfnmacaaPkRDecFF
import Derived.Test.YtbpcpgmbfnmacaaPkRDecFT
import Derived.Test.YtbpcpgmbfnmacaaPkRDecTF
import Derived.Test.YtbpcpgmbfnmacaaPkRDecTT
namespace Go.Proofs.Ytbpcpgmbfnmacaa
open Go.RowKit
set_option linter.unusedVariables false
set_option linter.unusedSimpArgs false
attribute [local go_sem] setCell_drewN alloc_drewN
section
variable (A : Option Addr) (bs : List Int) (c : Nat) (w : World)
set_option maxRecDepth 100000 in
set_option maxHeartbeats 6400000 in
theorem rPDec_limit (hA : IntsAt w w.heap.size .u8 A bs) (hz : Within 0 255 bs) (hm : bs.length ≤ 100000) (hc : bs.length ≤ c) (mm : Nat) (h2 : bs.getD 0 0 / 64 = 2) (hmm : bs.getD 0 0 % 16 = (mm : Int)) (hl12 : 12 + 4 * mm ≤ bs.length) (he' : bs.getD 0 0 / 16 % 2 = 1) (h5 : 16 + 4 * mm ≤ bs.length) (h6 : 1020 < 4 * fld bs (14 + 4 * mm) 2) : Calls Try.prog 16 #[.slice A bs.length c] w (PDecR ((Pk.Pkt.zero, 14 + 4 * (mm : Int), 4)) w) := by
  obtain ⟨b, off, rfl, hbB, hcell⟩ := hA (by omega)
  have HA : Hid (IntsAt w w.heap.size .u8 (some ⟨b, off, none⟩) bs) := Lib.hid hA
  have q0 : w.cell? ⟨b, off, none⟩ = some (.int .u8 (bs.getD 0 0)) := hcell 0 (by omega)
  obtain ⟨m0, n0⟩ := hz.at (i := 0) (by omega)
  obtain ⟨x0, hx0⟩ : ∃ x, x = bs.getD 0 0 := ⟨_, rfl⟩
  rw [← hx0] at q0 m0 n0
  have HX0 := Lib.hid hx0
  have HZ := Lib.hid hz
  have hlen := Lib.hid hm
  have hcap := Lib.hid hc
  have hb1 : (bs.length : Int) ≤ 100000 := by omega
  have hl1 : ¬bs.length = 0 := by omega
  have hl2 : ¬bs = [] := by intro h5; rw [h5] at hl1; exact hl1 rfl
  have hl3 : (0 : Int) < (bs.length : Int) := by omega
  have hbb : b < w.heap.size + 1 := by omega
  have hbc : b < w.heap.size + 1 + 1 := by omega
  have q1 : (((w.alloc (.cells #[.bool false, .int .u8 0, .int .u16 0, .int .u32 0, .int .u32 0, .slice none 0 0, .bool false, .int .u16 0, .slice none 0 0, .slice none 0 0, .int .i64 0] 27)).alloc (.cells #[.bool false, .int .u8 0, .int .u16 0, .int .u32 0, .int .u32 0, .slice none 0 0, .bool false, .int .u16 0, .slice none 0 0, .slice none 0 0, .int .i64 0] 27)).drew).cell? ⟨b, off + 1, none⟩ = some (.int .u8 (bs.getD 1 0)) := cell_new_old (cell_new_old (hcell 1 (by omega)) _) _
  obtain ⟨m1, n1⟩ := hz.at (i := 1) (by omega)
  obtain ⟨x1, hx1⟩ : ∃ x, x = bs.getD 1 0 := ⟨_, rfl⟩
  rw [← hx1] at q1 m1 n1
  have HX1 := Lib.hid hx1
  have km128 : x1.tmod 128 = x1 % 128 := Int.tmod_eq_emod_of_nonneg m1
  obtain ⟨mk, hmk⟩ : ∃ mk, mk = decide (128 ≤ x1) := ⟨_, rfl⟩
  have HMK := Lib.hid hmk
  have k128 : decide (128 ≤ x1) = mk := hmk.symm
  rw [← hx0] at h2 hmm he'
  obtain ⟨q, hq⟩ : ∃ q, q = 12 + 4 * mm := ⟨_, rfl⟩
  have kq : 12 + 4 * (mm : Int) = (q : Int) := by omega
  have k3 : x0 % 16 = (mm : Int) := hmm
  have k1 : (x0 / 64 != 2) = false := by simp [h2]
  have hmb : mm ≤ 15 := by omega
  have HQ := Lib.hid hq
  have hqb : q ≤ 72 := by omega
  have hq12 : 12 ≤ q := by omega
  have h4 : (q : Int) ≤ (bs.length : Int) := by omega
  have h4' : q ≤ bs.length := by omega
  have hne : ¬b = w.heap.size + 2 := by omega
  have h6' : (q : Int) + 4 ≤ (bs.length : Int) := by omega
  have h6b : decide ((bs.length : Int) < (q : Int) + 4) = false := by simp; omega
  have hl13 : (1 : Int) < (bs.length : Int) := by omega
  have d2 : (2 : Int) ≤ (c : Int) := by omega
  have d4 : (4 : Int) ≤ (c : Int) := by omega
  have d8 : (8 : Int) ≤ (c : Int) := by omega
  have d12 : (12 : Int) ≤ (c : Int) := by omega
  have n2' : ¬c = 2 := by omega
  have n4' : ¬c = 4 := by omega
  have n8' : ¬c = 8 := by omega
  obtain ⟨u1, u2, u3, u4⟩ := fld_mod2 bs 2 hz (by omega)
  obtain ⟨u5', u6'⟩ := fld_mod bs 4 hz (by omega)
  obtain ⟨u7', u8'⟩ := fld_mod bs 8 hz (by omega)
  have HW1 := Lib.hid hl12
  have H6 := Lib.hid h6
  clear h6 h2 hcell hA hz hx0 hmm hm hc hx1 hmk hq
  go_enter Try.func16, Try.ntmps16
  have U := Lib.hid (Bel.push (Bel.push (Bel.refl w) (.cells #[.bool false, .int .u8 0, .int .u16 0, .int .u32 0, .int .u32 0, .slice none 0 0, .bool false, .int .u16 0, .slice none 0 0, .slice none 0 0, .int .i64 0] 27)) (.cells #[.bool false, .int .u8 0, .int .u16 0, .int .u32 0, .int .u32 0, .slice none 0 0, .bool false, .int .u16 0, .slice none 0 0, .slice none 0 0, .int .i64 0] 27))
  have B := Lib.hid (Blk.push (Blk.new w 27 #[.bool false, .int .u8 0, .int .u16 0, .int .u32 0, .int .u32 0, .slice none 0 0, .bool false, .int .u16 0, .slice none 0 0, .slice none 0 0, .int .i64 0]) (.cells #[.bool false, .int .u8 0, .int .u16 0, .int .u32 0, .int .u32 0, .slice none 0 0, .bool false, .int .u16 0, .slice none 0 0, .slice none 0 0, .int .i64 0] 27))
  go_wp2_with fail
  obtain ⟨W, hW⟩ : ∃ W, W = (w.alloc (.cells #[.bool false, .int .u8 0, .int .u16 0, .int .u32 0, .int .u32 0, .slice none 0 0, .bool false, .int .u16 0, .slice none 0 0, .slice none 0 0, .int .i64 0] 27)).alloc (.cells #[.bool false, .int .u8 0, .int .u16 0, .int .u32 0, .int .u32 0, .slice none 0 0, .bool false, .int .u16 0, .slice none 0 0, .slice none 0 0, .int .i64 0] 27) := ⟨_, rfl⟩
  have hWs : W.heap.size = w.heap.size + 2 := by rw [hW]; simp
  have HWS := Lib.hid hWs
  have HA2 : Hid (IntsAt W w.heap.size .u8 (some ⟨b, off, none⟩) bs) := by rw [hW]; exact Lib.hid ((HA.out.alloc (Nat.le_refl _) _).alloc (by simp) _)
  have UW : Hid (Bel w W) := by rw [hW]; exact U
  have BW : Hid (Blk W w.heap.size 27 #[.bool false, .int .u8 0, .int .u16 0, .int .u32 0, .int .u32 0, .slice none 0 0, .bool false, .int .u16 0, .slice none 0 0, .slice none 0 0, .int .i64 0]) := by rw [hW]; exact B
  have BN : Hid (Blk W (w.heap.size + 1) 27 #[.bool false, .int .u8 0, .int .u16 0, .int .u32 0, .int .u32 0, .slice none 0 0, .bool false, .int .u16 0, .slice none 0 0, .slice none 0 0, .int .i64 0]) := by rw [hW]; exact Lib.hid (Blk.new1 w _ _ _)
  rw [← hW] at q1 ⊢
  clear hW hWs U B q0
  have hlen12 : 12 ≤ bs.length := by omega
  refine r12_wp b off bs c true w W x1 mk HA.out HZ.out hlen12 hlen.out hcap.out HX1.out HMK.out HWS.out UW.out BW.out BN.out ?_
  clear HA2 UW BW BN q1 HWS km128 k128 u1 u2 u3 u4 u5' u6' u7' u8'
  intro wx u15 u16 u17 u18 u19 u20 u21 u22 u23 u24 u25 u26 u27 u28 u29 u30 u31 u32 u33 u34 u35 u36 u37 u38 u39 u40 u41 u42 u43 u44 u45 u46 u47 u48 u49 u50 u51 u52 u53 u54 u55 u56 u57 u58 u59 u60 u61 u62 u63 u64 u65 u66 u67 u68 u69 u70 u71 u72 u73 u74 u75 D
  clear d2 d4 d8 d12 n2' n4' n8' m1 n1 hlen12
  go_wp2_with fail
  go_loopg [11] mm (fun gk s11 wr => ∃ (k : Nat) (A' : Option Addr) (c' : Nat), gk + k = mm ∧ s11 = .int .i64 k ∧ Hid (QState w wr [.bool mk, .int .u8 (x1 % 128), .int .u16 (fld bs 2 2), .int .u32 (fld bs 4 4), .int .u32 (fld bs 8 4), .slice A' k c', .bool true, .int .u16 0, .slice none 0 0, .slice none 0 0, .int .i64 0] none [] none []) ∧ Hid (Owns wr (w.heap.size + 3) 23 1 A' k c' (u32s ((List.range k).map fun i => fld bs (12 + 4 * i) 4))))
  case atStart => exact ⟨0, none, 0, rfl, rfl, D, Lib.hid Owns.nil⟩
  case round =>
    clear D
    obtain ⟨k, A', c', hgk, rfl, D, HO⟩ := hrel
    by_cases hlt : k < mm
    · obtain ⟨p, hp⟩ : ∃ p, p = 12 + 4 * k := ⟨_, rfl⟩
      have hpl : p + 4 ≤ bs.length := by have := HW1.out; omega
      have hpc : p + 4 ≤ c := by have := hcap.out; omega
      have HP := Lib.hid hp
      have hi0 : (0 : Int) ≤ (k : Int) := by omega
      have hi1 : (k : Int) < (mm : Int) := by omega
      have a1 := i64_small (4 * (k : Int)) (by omega) (by omega)
      have a2 := i64_small (12 + 4 * (k : Int)) (by omega) (by omega)
      have a3 := i64_small (16 + 4 * (k : Int)) (by omega) (by omega)
      have b2 : 12 + 4 * (k : Int) = (p : Int) := by omega
      have b3 : 16 + 4 * (k : Int) = (p : Int) + 4 := by omega
      rw [b2] at a2
      rw [b3] at a3
      have htn : ((p : Int) + 4).toNat = p + 4 := by omega
      have hqq : p + 4 - p = 4 := by omega
      have e0 : 0 ≤ (p : Int) + 4 := by omega
      have e4 : p ≤ p + 4 := by omega
      have e1 : (p : Int) + 4 ≤ (c : Int) := by omega
      have e2 : (p : Int) ≤ (c : Int) := by omega
      have e3 : ¬c = p := by omega
      have e5 : p + 4 ≤ c := hpc
      clear hp
      obtain ⟨u7, u8⟩ := fld_mod bs p HZ.out (by omega)
      have r5 := D.out.hr.at 5 _ rfl
      have hs := D.out.hs
      have h2s : w.heap.size + 2 < wr.heap.size := by omega
      have HA3 := Lib.hid (HA.out.below D.out.hu)
      go_wp2_with fail
      go_region_law (first
        | (refine step_append_one 94 (by rfl) (by rfl) _ _ 24 (by rfl) (w.heap.size + 3) 23 1 4 _ Try.underlying24 info_u32 rfl (by decide) A' k c' _ (by rfl) (Owns.alloc (Owns.drew HO.out) _) wr.heap.size [.int .u32 (fld bs p 4)] rfl (by simp [Value.oneCell']) (by rfl) (Blk.new wr.drew _ _) (by unfold maxLen; omega) (by omega) (by simp; omega) ?_; intro An cn wn hown hgr; have D3 := ((D.out.drew).push _).grown hgr (fun g e => (HO.out.block g e).1) IntsNew.nil IntsNew.nil; have r5' := D3.hr.at 5 _ rfl; have z' := D3.hr.frozen)
        | (go_simp; go_at_call 35; refine (rvalue_fld HA3.out.drew HZ.out p 4 _ (by omega) hpl).mono ?_; rintro e v2 ⟨rfl, rfl⟩))
      all_goals
        go_wp2_with fail
        go_roundg (gk - 1)
        case measure => omega
        case rel =>
          refine ⟨k + 1, An, cn, by omega, by go_num, Lib.hid (D3.set 5 (.slice An (k + 1) cn)), ?_⟩
          have e : u32s ((List.range (k + 1)).map fun i => fld bs (12 + 4 * i) 4) = u32s ((List.range k).map fun i => fld bs (12 + 4 * i) 4) ++ [.int .u32 (fld bs p 4)] := by
            rw [HP.out]
            simp [u32s, List.range_succ]
          rw [e]
          exact Lib.hid (hown.setCell (p := ⟨w.heap.size + 2, 5, none⟩) (fun g e => by have := (hown.block g e).1; simp only; omega) _)
    · obtain rfl : k = mm := by omega
      have hi1 : (k : Int) ≤ (k : Int) := Int.le_refl _
      have hi2 : ¬(k : Int) < (k : Int) := by omega
      obtain ⟨mx, hmx⟩ : ∃ mx, mx = (List.range k).map fun i => fld bs (12 + 4 * i) 4 := ⟨_, rfl⟩
      have HML : Hid (mx.length = k) := Lib.hid (by rw [hmx]; simp)
      have D' := Lib.hid (D.out.setM (IntsNew.of_own (B := w.heap.size + 3) HO.out (Nat.le_refl _)))
      rw [← hmx] at D'
      clear D HO
      have D := D'
      clear D'
      have HMX := Lib.hid hmx
      clear hmx hgk hl12 hlt k1 k3
      have hc0 := hcap.out
      have t2 : ((q : Int) + 2).toNat = q + 2 := by omega
      have t4 : ((q : Int) + 4).toNat = q + 4 := by omega
      have s2 : q + 2 - q = 2 := by omega
      have s4 : q + 4 - (q + 2) = 2 := by omega
      have e0 : 0 ≤ (q : Int) + 2 := by omega
      have e1 : 0 ≤ (q : Int) + 4 := by omega
      have e2 : (q : Int) + 2 ≤ (c : Int) := by omega
      have e3 : (q : Int) + 4 ≤ (c : Int) := by omega
      have e4 : ¬c = q := by omega
      have e5 : ¬c = q + 2 := by omega
      have e6 : q ≤ q + 2 := by omega
      have e7 : q + 2 ≤ q + 4 := by omega
      have e8 : (q : Int) + 2 ≤ (q : Int) + 4 := by omega
      obtain ⟨u1, u2, u3, u4⟩ := fld_mod2 bs q HZ.out (by omega)
      go_wp2_with fail
      refine (rvalue_fld (HA.out.below D.out.hu) HZ.out q 2 _ (by omega) (by omega)).mono ?_
      rintro e w1 ⟨rfl, rfl⟩
      have z := D.out.hr.frozen
      have r7 := D.out.hr.at 7 _ rfl
      go_wp2_with fail
      clear z r7 u1 u2 u3 u4
      have D' : Hid (QState w _ [.bool mk, .int .u8 (x1 % 128), .int .u16 (fld bs 2 2), .int .u32 (fld bs 4 4), .int .u32 (fld bs 8 4), .slice A' k c', .bool true, .int .u16 (fld bs q 2), .slice none 0 0, .slice none 0 0, .int .i64 0] A' mx none []) := Lib.hid (D.out.set 7 (.int .u16 (fld bs q 2)))
      clear D
      have D := D'
      clear D'
      obtain ⟨f1, f2, f3, f4⟩ := fld_mod2 bs (q + 2) HZ.out (by omega)
      have e14 : q + 2 = 14 + 4 * k := by have := HQ.out; omega
      have E14 := Lib.hid e14
      clear f1 f2 e14
      refine (rvalue_fld (HA.out.below D.out.hu) HZ.out (q + 2) 2 _ (by omega) (by omega)).mono ?_
      rintro e w1 ⟨rfl, rfl⟩
      have h6 := H6.out
      rw [← E14.out] at h6
      have z := D.out.hz.frozen
      have y0 := D.out.hz.at 0 _ rfl
      have y1 := D.out.hz.at 1 _ rfl
      have y2 := D.out.hz.at 2 _ rfl
      have y3 := D.out.hz.at 3 _ rfl
      have y4 := D.out.hz.at 4 _ rfl
      have y5 := D.out.hz.at 5 _ rfl
      have y6 := D.out.hz.at 6 _ rfl
      have y7 := D.out.hz.at 7 _ rfl
      have y8 := D.out.hz.at 8 _ rfl
      have y9 := D.out.hz.at 9 _ rfl
      have y10 := D.out.hz.at 10 _ rfl
      have x0' := D.out.hn.at 0 _ rfl
      have x1' := D.out.hn.at 1 _ rfl
      have x2' := D.out.hn.at 2 _ rfl
      have x3' := D.out.hn.at 3 _ rfl
      have x4' := D.out.hn.at 4 _ rfl
      have x5' := D.out.hn.at 5 _ rfl
      have x6' := D.out.hn.at 6 _ rfl
      have x7' := D.out.hn.at 7 _ rfl
      have x8' := D.out.hn.at 8 _ rfl
      have x9' := D.out.hn.at 9 _ rfl
      have x10' := D.out.hn.at 10 _ rfl
      go_wp2_with fail
      have BF := Blk.setRow D.out.hz [.bool false, .int .u8 0, .int .u16 0, .int .u32 0, .int .u32 0, .slice none 0 0, .bool false, .int .u16 0, .slice none 0 0, .slice none 0 0, .int .i64 0] rfl
      have UF := below_setRow (g := w.heap.size) (Nat.le_refl _) [.bool false, .int .u8 0, .int .u16 0, .int .u32 0, .int .u32 0, .slice none 0 0, .bool false, .int .u16 0, .slice none 0 0, .slice none 0 0, .int .i64 0] _ 0 D.out.hu
      simp only [setRow, Nat.zero_add, Nat.reduceAdd] at BF UF
      have hval : 14 + 4 * (k : Int) = (q : Int) + 2 := by have := HQ.out; omega
      rw [hval]
      exact bodyPost_ret (v := .tuple #[.agg #[.bool false, .int .u8 0, .int .u16 0, .int .u32 0, .int .u32 0, .slice none 0 0, .bool false, .int .u16 0, .slice none 0 0, .slice none 0 0, .int .i64 0], .int .i64 ((q : Int) + 2), .int .u8 4]) (res_ctt Try.results16 rfl (run_loadVar_row (P := Try.prog) _ _ _ _ _ _ _ BF Try.underlying27 rfl (by kernel_rfl)) rfl rfl) rfl ⟨none, 0, none, 0, none, 0, rfl, IntsNew.nil, IntsNew.nil, IntsNew.nil, UF⟩
end
open Go.RowKit
set_option linter.unusedVariables false
set_option linter.unusedSimpArgs false
attribute [local go_sem] setCell_drewN alloc_drewN
section
variable (A : Option Addr) (bs : List Int) (c : Nat) (w : World)
set_option maxRecDepth 100000 in
set_option maxHeartbeats 6400000 in
theorem rPDec_short3 (hA : IntsAt w w.heap.size .u8 A bs) (hz : Within 0 255 bs) (hm : bs.length ≤ 100000) (hc : bs.length ≤ c) (mm : Nat) (h2 : bs.getD 0 0 / 64 = 2) (hmm : bs.getD 0 0 % 16 = (mm : Int)) (hl12 : 12 + 4 * mm ≤ bs.length) (he' : bs.getD 0 0 / 16 % 2 = 1) (h5 : 16 + 4 * mm ≤ bs.length) (h6 : 4 * fld bs (14 + 4 * mm) 2 ≤ 1020) (h7 : (bs.length : Int) < 16 + 4 * (mm : Int) + 4 * fld bs (14 + 4 * mm) 2) : Calls Try.prog 16 #[.slice A bs.length c] w (PDecR ((Pk.Pkt.zero, (bs.length : Int), 6)) w) := by
  obtain ⟨b, off, rfl, hbB, hcell⟩ := hA (by omega)
  have HA : Hid (IntsAt w w.heap.size .u8 (some ⟨b, off, none⟩) bs) := Lib.hid hA
  have q0 : w.cell? ⟨b, off, none⟩ = some (.int .u8 (bs.getD 0 0)) := hcell 0 (by omega)
  obtain ⟨m0, n0⟩ := hz.at (i := 0) (by omega)
  obtain ⟨x0, hx0⟩ : ∃ x, x = bs.getD 0 0 := ⟨_, rfl⟩
  rw [← hx0] at q0 m0 n0
  have HX0 := Lib.hid hx0
  have HZ := Lib.hid hz
  have hlen := Lib.hid hm
  have hcap := Lib.hid hc
  have hb1 : (bs.length : Int) ≤ 100000 := by omega
  have hl1 : ¬bs.length = 0 := by omega
  have hl2 : ¬bs = [] := by intro h5; rw [h5] at hl1; exact hl1 rfl
  have hl3 : (0 : Int) < (bs.length : Int) := by omega
  have hbb : b < w.heap.size + 1 := by omega
  have hbc : b < w.heap.size + 1 + 1 := by omega
  have q1 : (((w.alloc (.cells #[.bool false, .int .u8 0, .int .u16 0, .int .u32 0, .int .u32 0, .slice none 0 0, .bool false, .int .u16 0, .slice none 0 0, .slice none 0 0, .int .i64 0] 27)).alloc (.cells #[.bool false, .int .u8 0, .int .u16 0, .int .u32 0, .int .u32 0, .slice none 0 0, .bool false, .int .u16 0, .slice none 0 0, .slice none 0 0, .int .i64 0] 27)).drew).cell? ⟨b, off + 1, none⟩ = some (.int .u8 (bs.getD 1 0)) := cell_new_old (cell_new_old (hcell 1 (by omega)) _) _
  obtain ⟨m1, n1⟩ := hz.at (i := 1) (by omega)
  obtain ⟨x1, hx1⟩ : ∃ x, x = bs.getD 1 0 := ⟨_, rfl⟩
  rw [← hx1] at q1 m1 n1
  have HX1 := Lib.hid hx1
  have km128 : x1.tmod 128 = x1 % 128 := Int.tmod_eq_emod_of_nonneg m1
  obtain ⟨mk, hmk⟩ : ∃ mk, mk = decide (128 ≤ x1) := ⟨_, rfl⟩
  have HMK := Lib.hid hmk
  have k128 : decide (128 ≤ x1) = mk := hmk.symm
  rw [← hx0] at h2 hmm he'
  obtain ⟨q, hq⟩ : ∃ q, q = 12 + 4 * mm := ⟨_, rfl⟩
  have kq : 12 + 4 * (mm : Int) = (q : Int) := by omega
  have k3 : x0 % 16 = (mm : Int) := hmm
  have k1 : (x0 / 64 != 2) = false := by simp [h2]
  have hmb : mm ≤ 15 := by omega
  have HQ := Lib.hid hq
  have hqb : q ≤ 72 := by omega
  have hq12 : 12 ≤ q := by omega
  have h4 : (q : Int) ≤ (bs.length : Int) := by omega
  have h4' : q ≤ bs.length := by omega
  have hne : ¬b = w.heap.size + 2 := by omega
  have h6' : (q : Int) + 4 ≤ (bs.length : Int) := by omega
  have h6b : decide ((bs.length : Int) < (q : Int) + 4) = false := by simp; omega
  have hl13 : (1 : Int) < (bs.length : Int) := by omega
  have d2 : (2 : Int) ≤ (c : Int) := by omega
  have d4 : (4 : Int) ≤ (c : Int) := by omega
  have d8 : (8 : Int) ≤ (c : Int) := by omega
  have d12 : (12 : Int) ≤ (c : Int) := by omega
  have n2' : ¬c = 2 := by omega
  have n4' : ¬c = 4 := by omega
  have n8' : ¬c = 8 := by omega
  obtain ⟨u1, u2, u3, u4⟩ := fld_mod2 bs 2 hz (by omega)
  obtain ⟨u5', u6'⟩ := fld_mod bs 4 hz (by omega)
  obtain ⟨u7', u8'⟩ := fld_mod bs 8 hz (by omega)
  have HW1 := Lib.hid hl12
  have H6 := Lib.hid h6
  have H7 := Lib.hid h7
  clear h7
  clear h6 h2 hcell hA hz hx0 hmm hm hc hx1 hmk hq
  go_enter Try.func16, Try.ntmps16
  have U := Lib.hid (Bel.push (Bel.push (Bel.refl w) (.cells #[.bool false, .int .u8 0, .int .u16 0, .int .u32 0, .int .u32 0, .slice none 0 0, .bool false, .int .u16 0, .slice none 0 0, .slice none 0 0, .int .i64 0] 27)) (.cells #[.bool false, .int .u8 0, .int .u16 0, .int .u32 0, .int .u32 0, .slice none 0 0, .bool false, .int .u16 0, .slice none 0 0, .slice none 0 0, .int .i64 0] 27))
  have B := Lib.hid (Blk.push (Blk.new w 27 #[.bool false, .int .u8 0, .int .u16 0, .int .u32 0, .int .u32 0, .slice none 0 0, .bool false, .int .u16 0, .slice none 0 0, .slice none 0 0, .int .i64 0]) (.cells #[.bool false, .int .u8 0, .int .u16 0, .int .u32 0, .int .u32 0, .slice none 0 0, .bool false, .int .u16 0, .slice none 0 0, .slice none 0 0, .int .i64 0] 27))
  go_wp2_with fail
  obtain ⟨W, hW⟩ : ∃ W, W = (w.alloc (.cells #[.bool false, .int .u8 0, .int .u16 0, .int .u32 0, .int .u32 0, .slice none 0 0, .bool false, .int .u16 0, .slice none 0 0, .slice none 0 0, .int .i64 0] 27)).alloc (.cells #[.bool false, .int .u8 0, .int .u16 0, .int .u32 0, .int .u32 0, .slice none 0 0, .bool false, .int .u16 0, .slice none 0 0, .slice none 0 0, .int .i64 0] 27) := ⟨_, rfl⟩
  have hWs : W.heap.size = w.heap.size + 2 := by rw [hW]; simp
  have HWS := Lib.hid hWs
  have HA2 : Hid (IntsAt W w.heap.size .u8 (some ⟨b, off, none⟩) bs) := by rw [hW]; exact Lib.hid ((HA.out.alloc (Nat.le_refl _) _).alloc (by simp) _)
  have UW : Hid (Bel w W) := by rw [hW]; exact U
  have BW : Hid (Blk W w.heap.size 27 #[.bool false, .int .u8 0, .int .u16 0, .int .u32 0, .int .u32 0, .slice none 0 0, .bool false, .int .u16 0, .slice none 0 0, .slice none 0 0, .int .i64 0]) := by rw [hW]; exact B
  have BN : Hid (Blk W (w.heap.size + 1) 27 #[.bool false, .int .u8 0, .int .u16 0, .int .u32 0, .int .u32 0, .slice none 0 0, .bool false, .int .u16 0, .slice none 0 0, .slice none 0 0, .int .i64 0]) := by rw [hW]; exact Lib.hid (Blk.new1 w _ _ _)
  rw [← hW] at q1 ⊢
  clear hW hWs U B q0
  have hlen12 : 12 ≤ bs.length := by omega
  refine r12_wp b off bs c true w W x1 mk HA.out HZ.out hlen12 hlen.out hcap.out HX1.out HMK.out HWS.out UW.out BW.out BN.out ?_
  clear HA2 UW BW BN q1 HWS km128 k128 u1 u2 u3 u4 u5' u6' u7' u8'
  intro wx u15 u16 u17 u18 u19 u20 u21 u22 u23 u24 u25 u26 u27 u28 u29 u30 u31 u32 u33 u34 u35 u36 u37 u38 u39 u40 u41 u42 u43 u44 u45 u46 u47 u48 u49 u50 u51 u52 u53 u54 u55 u56 u57 u58 u59 u60 u61 u62 u63 u64 u65 u66 u67 u68 u69 u70 u71 u72 u73 u74 u75 D
  clear d2 d4 d8 d12 n2' n4' n8' m1 n1 hlen12
  go_wp2_with fail
  go_loopg [11] mm (fun gk s11 wr => ∃ (k : Nat) (A' : Option Addr) (c' : Nat), gk + k = mm ∧ s11 = .int .i64 k ∧ Hid (QState w wr [.bool mk, .int .u8 (x1 % 128), .int .u16 (fld bs 2 2), .int .u32 (fld bs 4 4), .int .u32 (fld bs 8 4), .slice A' k c', .bool true, .int .u16 0, .slice none 0 0, .slice none 0 0, .int .i64 0] none [] none []) ∧ Hid (Owns wr (w.heap.size + 3) 23 1 A' k c' (u32s ((List.range k).map fun i => fld bs (12 + 4 * i) 4))))
  case atStart => exact ⟨0, none, 0, rfl, rfl, D, Lib.hid Owns.nil⟩
  case round =>
    clear D
    obtain ⟨k, A', c', hgk, rfl, D, HO⟩ := hrel
    by_cases hlt : k < mm
    · obtain ⟨p, hp⟩ : ∃ p, p = 12 + 4 * k := ⟨_, rfl⟩
      have hpl : p + 4 ≤ bs.length := by have := HW1.out; omega
      have hpc : p + 4 ≤ c := by have := hcap.out; omega
      have HP := Lib.hid hp
      have hi0 : (0 : Int) ≤ (k : Int) := by omega
      have hi1 : (k : Int) < (mm : Int) := by omega
      have a1 := i64_small (4 * (k : Int)) (by omega) (by omega)
      have a2 := i64_small (12 + 4 * (k : Int)) (by omega) (by omega)
      have a3 := i64_small (16 + 4 * (k : Int)) (by omega) (by omega)
      have b2 : 12 + 4 * (k : Int) = (p : Int) := by omega
      have b3 : 16 + 4 * (k : Int) = (p : Int) + 4 := by omega
      rw [b2] at a2
      rw [b3] at a3
      have htn : ((p : Int) + 4).toNat = p + 4 := by omega
      have hqq : p + 4 - p = 4 := by omega
      have e0 : 0 ≤ (p : Int) + 4 := by omega
      have e4 : p ≤ p + 4 := by omega
      have e1 : (p : Int) + 4 ≤ (c : Int) := by omega
      have e2 : (p : Int) ≤ (c : Int) := by omega
      have e3 : ¬c = p := by omega
      have e5 : p + 4 ≤ c := hpc
      clear hp
      obtain ⟨u7, u8⟩ := fld_mod bs p HZ.out (by omega)
      have r5 := D.out.hr.at 5 _ rfl
      have hs := D.out.hs
      have h2s : w.heap.size + 2 < wr.heap.size := by omega
      have HA3 := Lib.hid (HA.out.below D.out.hu)
      go_wp2_with fail
      go_region_law (first
        | (refine step_append_one 94 (by rfl) (by rfl) _ _ 24 (by rfl) (w.heap.size + 3) 23 1 4 _ Try.underlying24 info_u32 rfl (by decide) A' k c' _ (by rfl) (Owns.alloc (Owns.drew HO.out) _) wr.heap.size [.int .u32 (fld bs p 4)] rfl (by simp [Value.oneCell']) (by rfl) (Blk.new wr.drew _ _) (by unfold maxLen; omega) (by omega) (by simp; omega) ?_; intro An cn wn hown hgr; have D3 := ((D.out.drew).push _).grown hgr (fun g e => (HO.out.block g e).1) IntsNew.nil IntsNew.nil; have r5' := D3.hr.at 5 _ rfl; have z' := D3.hr.frozen)
        | (go_simp; go_at_call 35; refine (rvalue_fld HA3.out.drew HZ.out p 4 _ (by omega) hpl).mono ?_; rintro e v2 ⟨rfl, rfl⟩))
      all_goals
        go_wp2_with fail
        go_roundg (gk - 1)
        case measure => omega
        case rel =>
          refine ⟨k + 1, An, cn, by omega, by go_num, Lib.hid (D3.set 5 (.slice An (k + 1) cn)), ?_⟩
          have e : u32s ((List.range (k + 1)).map fun i => fld bs (12 + 4 * i) 4) = u32s ((List.range k).map fun i => fld bs (12 + 4 * i) 4) ++ [.int .u32 (fld bs p 4)] := by
            rw [HP.out]
            simp [u32s, List.range_succ]
          rw [e]
          exact Lib.hid (hown.setCell (p := ⟨w.heap.size + 2, 5, none⟩) (fun g e => by have := (hown.block g e).1; simp only; omega) _)
    · obtain rfl : k = mm := by omega
      have hi1 : (k : Int) ≤ (k : Int) := Int.le_refl _
      have hi2 : ¬(k : Int) < (k : Int) := by omega
      obtain ⟨mx, hmx⟩ : ∃ mx, mx = (List.range k).map fun i => fld bs (12 + 4 * i) 4 := ⟨_, rfl⟩
      have HML : Hid (mx.length = k) := Lib.hid (by rw [hmx]; simp)
      have D' := Lib.hid (D.out.setM (IntsNew.of_own (B := w.heap.size + 3) HO.out (Nat.le_refl _)))
      rw [← hmx] at D'
      clear D HO
      have D := D'
      clear D'
      have HMX := Lib.hid hmx
      clear hmx hgk hl12 hlt k1 k3
      have hc0 := hcap.out
      have t2 : ((q : Int) + 2).toNat = q + 2 := by omega
      have t4 : ((q : Int) + 4).toNat = q + 4 := by omega
      have s2 : q + 2 - q = 2 := by omega
      have s4 : q + 4 - (q + 2) = 2 := by omega
      have e0 : 0 ≤ (q : Int) + 2 := by omega
      have e1 : 0 ≤ (q : Int) + 4 := by omega
      have e2 : (q : Int) + 2 ≤ (c : Int) := by omega
      have e3 : (q : Int) + 4 ≤ (c : Int) := by omega
      have e4 : ¬c = q := by omega
      have e5 : ¬c = q + 2 := by omega
      have e6 : q ≤ q + 2 := by omega
      have e7 : q + 2 ≤ q + 4 := by omega
      have e8 : (q : Int) + 2 ≤ (q : Int) + 4 := by omega
      obtain ⟨u1, u2, u3, u4⟩ := fld_mod2 bs q HZ.out (by omega)
      go_wp2_with fail
      refine (rvalue_fld (HA.out.below D.out.hu) HZ.out q 2 _ (by omega) (by omega)).mono ?_
      rintro e w1 ⟨rfl, rfl⟩
      have z := D.out.hr.frozen
      have r7 := D.out.hr.at 7 _ rfl
      go_wp2_with fail
      clear z r7 u1 u2 u3 u4
      have D' : Hid (QState w _ [.bool mk, .int .u8 (x1 % 128), .int .u16 (fld bs 2 2), .int .u32 (fld bs 4 4), .int .u32 (fld bs 8 4), .slice A' k c', .bool true, .int .u16 (fld bs q 2), .slice none 0 0, .slice none 0 0, .int .i64 0] A' mx none []) := Lib.hid (D.out.set 7 (.int .u16 (fld bs q 2)))
      clear D
      have D := D'
      clear D'
      obtain ⟨f1, f2, f3, f4⟩ := fld_mod2 bs (q + 2) HZ.out (by omega)
      have e14 : q + 2 = 14 + 4 * k := by have := HQ.out; omega
      have E14 := Lib.hid e14
      clear f1 f2 e14
      refine (rvalue_fld (HA.out.below D.out.hu) HZ.out (q + 2) 2 _ (by omega) (by omega)).mono ?_
      rintro e w1 ⟨rfl, rfl⟩
      have h6 := H6.out
      rw [← E14.out] at h6
      have h7 := H7.out
      rw [← E14.out] at h7
      have h8 : (bs.length : Int) < (q : Int) + 4 + 4 * fld bs (q + 2) 2 := by have := HQ.out; omega
      clear h7
      have z := D.out.hz.frozen
      have y0 := D.out.hz.at 0 _ rfl
      have y1 := D.out.hz.at 1 _ rfl
      have y2 := D.out.hz.at 2 _ rfl
      have y3 := D.out.hz.at 3 _ rfl
      have y4 := D.out.hz.at 4 _ rfl
      have y5 := D.out.hz.at 5 _ rfl
      have y6 := D.out.hz.at 6 _ rfl
      have y7 := D.out.hz.at 7 _ rfl
      have y8 := D.out.hz.at 8 _ rfl
      have y9 := D.out.hz.at 9 _ rfl
      have y10 := D.out.hz.at 10 _ rfl
      have x0' := D.out.hn.at 0 _ rfl
      have x1' := D.out.hn.at 1 _ rfl
      have x2' := D.out.hn.at 2 _ rfl
      have x3' := D.out.hn.at 3 _ rfl
      have x4' := D.out.hn.at 4 _ rfl
      have x5' := D.out.hn.at 5 _ rfl
      have x6' := D.out.hn.at 6 _ rfl
      have x7' := D.out.hn.at 7 _ rfl
      have x8' := D.out.hn.at 8 _ rfl
      have x9' := D.out.hn.at 9 _ rfl
      have x10' := D.out.hn.at 10 _ rfl
      go_wp2_with fail
      have BF := Blk.setRow D.out.hz [.bool false, .int .u8 0, .int .u16 0, .int .u32 0, .int .u32 0, .slice none 0 0, .bool false, .int .u16 0, .slice none 0 0, .slice none 0 0, .int .i64 0] rfl
      have UF := below_setRow (g := w.heap.size) (Nat.le_refl _) [.bool false, .int .u8 0, .int .u16 0, .int .u32 0, .int .u32 0, .slice none 0 0, .bool false, .int .u16 0, .slice none 0 0, .slice none 0 0, .int .i64 0] _ 0 D.out.hu
      simp only [setRow, Nat.zero_add, Nat.reduceAdd] at BF UF
      skip
      exact bodyPost_ret (v := .tuple #[.agg #[.bool false, .int .u8 0, .int .u16 0, .int .u32 0, .int .u32 0, .slice none 0 0, .bool false, .int .u16 0, .slice none 0 0, .slice none 0 0, .int .i64 0], .int .i64 bs.length, .int .u8 6]) (res_ctt Try.results16 rfl (run_loadVar_row (P := Try.prog) _ _ _ _ _ _ _ BF Try.underlying27 rfl (by kernel_rfl)) rfl rfl) rfl ⟨none, 0, none, 0, none, 0, rfl, IntsNew.nil, IntsNew.nil, IntsNew.nil, UF⟩
end
open Go.RowKit
set_option linter.unusedVariables false
set_option linter.unusedSimpArgs false
attribute [local go_sem] setCell_drewN alloc_drewN
theorem rDecode_any (A : Option Addr) (bs : List Int) (c : Nat) (w : World) (hA : IntsAt w w.heap.size .u8 A bs) (hz : Within 0 255 bs) (hm : bs.length ≤ 100000) (hc : bs.length ≤ c) : Calls Try.prog 16 #[.slice A bs.length c] w (PDecR (Pk.dec bs) w) := by
  unfold Pk.dec
  by_cases h : (Pk.chk bs).2 = 0
  · rw [if_neg (fun h2 => h2 h)]
    have hr : bs.getD 0 0 / 32 % 2 = 0 ∨ bs.getD 0 0 / 32 % 2 = 1 := by omega
    rcases hr with hp | hp
    · rw [if_neg (by omega)]
      cases he : Pk.ext bs with
      | false => exact rPDec_FF A bs c w hA hz hm hc h he hp
      | true => exact rPDec_TF A bs c w hA hz hm hc h he hp
    · rw [if_pos hp]
      cases he : Pk.ext bs with
      | false => exact rPDec_FT A bs c w hA hz hm hc h he hp
      | true => exact rPDec_TT A bs c w hA hz hm hc h he hp
  rw [if_pos h]
  unfold Pk.chk at h ⊢
  by_cases h1 : bs.length = 0
  · rw [if_pos h1]; exact rPDec_empty A bs c w hA hz hm hc h1
  rw [if_neg h1] at h ⊢
  by_cases h2 : bs.getD 0 0 / 64 = 2
  case neg => rw [if_pos h2]; exact rPDec_ver A bs c w hA hz hm hc (by omega) h2
  rw [if_neg (show ¬bs.getD 0 0 / 64 ≠ 2 from fun h3 => h3 h2)] at h ⊢
  obtain ⟨mm, hmm⟩ : ∃ n : Nat, bs.getD 0 0 % 16 = (n : Int) := ⟨(bs.getD 0 0 % 16).toNat, by omega⟩
  have hq : (bs.getD 0 0 % 16).toNat = mm := by omega
  rw [hq, hmm] at h ⊢
  by_cases h3 : (bs.length : Int) < 12 + 4 * (mm : Int)
  · rw [if_pos h3]; exact rPDec_short1 A bs c w hA hz hm hc mm (by omega) h2 hmm h3
  rw [if_neg h3] at h ⊢
  by_cases h4 : bs.getD 0 0 / 16 % 2 = 0
  · rw [if_pos h4] at h; exact absurd rfl h
  rw [if_neg h4] at h ⊢
  by_cases h5 : (bs.length : Int) < 12 + 4 * (mm : Int) + 4
  · rw [if_pos h5]; exact rPDec_short2 A bs c w hA hz hm hc mm (by omega) h2 hmm (by omega) (by omega) h5
  rw [if_neg h5] at h ⊢
  by_cases h6 : 1020 < 4 * fld bs (14 + 4 * mm) 2
  · rw [if_pos h6]
    have := rPDec_limit A bs c w hA hz hm hc mm h2 hmm (by omega) (by omega) (by omega) h6
    rw [show 12 + 4 * (mm : Int) + 2 = 14 + 4 * (mm : Int) by omega]
    exact this
  rw [if_neg h6] at h ⊢
  by_cases h7 : (bs.length : Int) < 12 + 4 * (mm : Int) + 4 + 4 * fld bs (14 + 4 * mm) 2
  · rw [if_pos h7]
    exact rPDec_short3 A bs c w hA hz hm hc mm h2 hmm (by omega) (by omega) (by omega) (by omega) (by omega)
  · rw [if_neg h7] at h; exact absurd rfl h
end Go.Proofs.Ytbpcpgmbfnmacaa

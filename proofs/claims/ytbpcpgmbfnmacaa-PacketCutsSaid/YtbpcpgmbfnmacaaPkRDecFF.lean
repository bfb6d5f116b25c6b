/- Layer 25: Decode of the reference. -/
import Derived.Test.YtbpcpgmbfnmacaaPkRDecR
namespace Go.Proofs.Ytbpcpgmbfnmacaa
open Go.RowKit
set_option linter.unusedVariables false
set_option linter.unusedSimpArgs false
attribute [local go_sem] setCell_drewN alloc_drewN
section
variable (A : Option Addr) (bs : List Int) (c : Nat) (w : World)
set_option maxRecDepth 100000 in
set_option maxHeartbeats 6400000 in
theorem rPDec_FF (hA : IntsAt w w.heap.size .u8 A bs) (hz : Within 0 255 bs) (hm : bs.length ≤ 100000) (hc : bs.length ≤ c) (h : (Pk.chk bs).2 = 0) (he : Pk.ext bs = false) (hp : bs.getD 0 0 / 32 % 2 = 0) : Calls Try.prog 16 #[.slice A bs.length c] w (PDecR (Pk.fin bs 0) w) := by
  have h2 := chk_ver_ok bs h
  obtain ⟨hc1, hl12, hmm, hx⟩ := chk_ok bs hz h
  obtain ⟨mm, hmq⟩ : ∃ mm, mm = Pk.many bs := ⟨_, rfl⟩
  rw [← hmq] at hmm hl12 hx
  have HMQ := Lib.hid hmq
  have HE := Lib.hid he
  have HX := Lib.hid hx
  have he' : bs.getD 0 0 / 16 % 2 = 0 := by
    have h7 := HE.out
    unfold Pk.ext at h7
    have := of_decide_eq_false h7; omega
  clear hmq he hx hc1 h
  obtain ⟨b, off, rfl, hbB, hcell⟩ := hA (by omega)
  have HA : Hid (IntsAt w w.heap.size .u8 (some ⟨b, off, none⟩) bs) := Lib.hid hA
  have q0 : w.cell? ⟨b, off, none⟩ = some (.int .u8 (bs.getD 0 0)) := hcell 0 (by omega)
  obtain ⟨m0, n0⟩ := hz.at (i := 0) (by omega)
  obtain ⟨x0, hx0⟩ : ∃ x, x = bs.getD 0 0 := ⟨_, rfl⟩
  rw [← hx0] at q0 m0 n0
  have HX0 := Lib.hid hx0
  have HZ := Lib.hid hz
  have hlen := Lib.hid hm
  have hcap := Lib.hid hc
  have hb1 : (bs.length : Int) ≤ 100000 := by omega
  have hl1 : ¬bs.length = 0 := by omega
  have hl2 : ¬bs = [] := by intro h5; rw [h5] at hl1; exact hl1 rfl
  have hl3 : (0 : Int) < (bs.length : Int) := by omega
  have hbb : b < w.heap.size + 1 := by omega
  have hbc : b < w.heap.size + 1 + 1 := by omega
  have q1 : (((w.alloc (.cells #[.bool false, .int .u8 0, .int .u16 0, .int .u32 0, .int .u32 0, .slice none 0 0, .bool false, .int .u16 0, .slice none 0 0, .slice none 0 0, .int .i64 0] 27)).alloc (.cells #[.bool false, .int .u8 0, .int .u16 0, .int .u32 0, .int .u32 0, .slice none 0 0, .bool false, .int .u16 0, .slice none 0 0, .slice none 0 0, .int .i64 0] 27)).drew).cell? ⟨b, off + 1, none⟩ = some (.int .u8 (bs.getD 1 0)) := cell_new_old (cell_new_old (hcell 1 (by omega)) _) _
  obtain ⟨m1, n1⟩ := hz.at (i := 1) (by omega)
  obtain ⟨x1, hx1⟩ : ∃ x, x = bs.getD 1 0 := ⟨_, rfl⟩
  rw [← hx1] at q1 m1 n1
  have HX1 := Lib.hid hx1
  have km128 : x1.tmod 128 = x1 % 128 := Int.tmod_eq_emod_of_nonneg m1
  obtain ⟨mk, hmk⟩ : ∃ mk, mk = decide (128 ≤ x1) := ⟨_, rfl⟩
  have HMK := Lib.hid hmk
  have k128 : decide (128 ≤ x1) = mk := hmk.symm
  rw [← hx0] at h2 hmm he'
  obtain ⟨q, hq⟩ : ∃ q, q = 12 + 4 * mm := ⟨_, rfl⟩
  have kq : 12 + 4 * (mm : Int) = (q : Int) := by omega
  have k3 : x0 % 16 = (mm : Int) := hmm
  have k1 : (x0 / 64 != 2) = false := by simp [h2]
  have hmb : mm ≤ 15 := by omega
  have HQ := Lib.hid hq
  have hqb : q ≤ 72 := by omega
  have hq12 : 12 ≤ q := by omega
  have h4 : (q : Int) ≤ (bs.length : Int) := by omega
  have h4' : q ≤ bs.length := by omega
  have hne : ¬b = w.heap.size + 2 := by omega

  have hl13 : (1 : Int) < (bs.length : Int) := by omega
  have d2 : (2 : Int) ≤ (c : Int) := by omega
  have d4 : (4 : Int) ≤ (c : Int) := by omega
  have d8 : (8 : Int) ≤ (c : Int) := by omega
  have d12 : (12 : Int) ≤ (c : Int) := by omega
  have n2' : ¬c = 2 := by omega
  have n4' : ¬c = 4 := by omega
  have n8' : ¬c = 8 := by omega
  obtain ⟨u1, u2, u3, u4⟩ := fld_mod2 bs 2 hz (by omega)
  obtain ⟨u5', u6'⟩ := fld_mod bs 4 hz (by omega)
  obtain ⟨u7', u8'⟩ := fld_mod bs 8 hz (by omega)
  have HW1 := Lib.hid hl12
  have hp2 := hp
  rw [HX0.out.symm] at hp2
  have kp : x0 / 32 % 2 = 0 := hp2
  clear hp hp2 h2 hcell hA hz hx0 hmm hm hc hx1 hmk hq
  go_enter Try.func16, Try.ntmps16
  have U := Lib.hid (Bel.push (Bel.push (Bel.refl w) (.cells #[.bool false, .int .u8 0, .int .u16 0, .int .u32 0, .int .u32 0, .slice none 0 0, .bool false, .int .u16 0, .slice none 0 0, .slice none 0 0, .int .i64 0] 27)) (.cells #[.bool false, .int .u8 0, .int .u16 0, .int .u32 0, .int .u32 0, .slice none 0 0, .bool false, .int .u16 0, .slice none 0 0, .slice none 0 0, .int .i64 0] 27))
  have B := Lib.hid (Blk.push (Blk.new w 27 #[.bool false, .int .u8 0, .int .u16 0, .int .u32 0, .int .u32 0, .slice none 0 0, .bool false, .int .u16 0, .slice none 0 0, .slice none 0 0, .int .i64 0]) (.cells #[.bool false, .int .u8 0, .int .u16 0, .int .u32 0, .int .u32 0, .slice none 0 0, .bool false, .int .u16 0, .slice none 0 0, .slice none 0 0, .int .i64 0] 27))
  go_wp2_with fail
  obtain ⟨W, hW⟩ : ∃ W, W = (w.alloc (.cells #[.bool false, .int .u8 0, .int .u16 0, .int .u32 0, .int .u32 0, .slice none 0 0, .bool false, .int .u16 0, .slice none 0 0, .slice none 0 0, .int .i64 0] 27)).alloc (.cells #[.bool false, .int .u8 0, .int .u16 0, .int .u32 0, .int .u32 0, .slice none 0 0, .bool false, .int .u16 0, .slice none 0 0, .slice none 0 0, .int .i64 0] 27) := ⟨_, rfl⟩
  have hWs : W.heap.size = w.heap.size + 2 := by rw [hW]; simp
  have HWS := Lib.hid hWs
  have HA2 : Hid (IntsAt W w.heap.size .u8 (some ⟨b, off, none⟩) bs) := by rw [hW]; exact Lib.hid ((HA.out.alloc (Nat.le_refl _) _).alloc (by simp) _)
  have UW : Hid (Bel w W) := by rw [hW]; exact U
  have BW : Hid (Blk W w.heap.size 27 #[.bool false, .int .u8 0, .int .u16 0, .int .u32 0, .int .u32 0, .slice none 0 0, .bool false, .int .u16 0, .slice none 0 0, .slice none 0 0, .int .i64 0]) := by rw [hW]; exact B
  have BN : Hid (Blk W (w.heap.size + 1) 27 #[.bool false, .int .u8 0, .int .u16 0, .int .u32 0, .int .u32 0, .slice none 0 0, .bool false, .int .u16 0, .slice none 0 0, .slice none 0 0, .int .i64 0]) := by rw [hW]; exact Lib.hid (Blk.new1 w _ _ _)
  rw [← hW] at q1 ⊢
  clear hW hWs U B q0
  have hlen12 : 12 ≤ bs.length := by omega
  refine r12_wp b off bs c false w W x1 mk HA.out HZ.out hlen12 hlen.out hcap.out HX1.out HMK.out HWS.out UW.out BW.out BN.out ?_
  clear HA2 UW BW BN q1 HWS km128 k128 u1 u2 u3 u4 u5' u6' u7' u8'
  intro wx u15 u16 u17 u18 u19 u20 u21 u22 u23 u24 u25 u26 u27 u28 u29 u30 u31 u32 u33 u34 u35 u36 u37 u38 u39 u40 u41 u42 u43 u44 u45 u46 u47 u48 u49 u50 u51 u52 u53 u54 u55 u56 u57 u58 u59 u60 u61 u62 u63 u64 u65 u66 u67 u68 u69 u70 u71 u72 u73 u74 u75 D
  clear d2 d4 d8 d12 n2' n4' n8' m1 n1 hlen12
  go_wp2_with fail
  go_loopg [11] mm (fun gk s11 wr => ∃ (k : Nat) (A' : Option Addr) (c' : Nat), gk + k = mm ∧ s11 = .int .i64 k ∧ Hid (QState w wr [.bool mk, .int .u8 (x1 % 128), .int .u16 (fld bs 2 2), .int .u32 (fld bs 4 4), .int .u32 (fld bs 8 4), .slice A' k c', .bool false, .int .u16 0, .slice none 0 0, .slice none 0 0, .int .i64 0] none [] none []) ∧ Hid (Owns wr (w.heap.size + 3) 23 1 A' k c' (u32s ((List.range k).map fun i => fld bs (12 + 4 * i) 4))))
  case atStart => exact ⟨0, none, 0, rfl, rfl, D, Lib.hid Owns.nil⟩
  case round =>
    clear D
    obtain ⟨k, A', c', hgk, rfl, D, HO⟩ := hrel
    by_cases hlt : k < mm
    · obtain ⟨p, hp⟩ : ∃ p, p = 12 + 4 * k := ⟨_, rfl⟩
      have hpl : p + 4 ≤ bs.length := by have := HW1.out; omega
      have hpc : p + 4 ≤ c := by have := hcap.out; omega
      have HP := Lib.hid hp
      have hi0 : (0 : Int) ≤ (k : Int) := by omega
      have hi1 : (k : Int) < (mm : Int) := by omega
      have a1 := i64_small (4 * (k : Int)) (by omega) (by omega)
      have a2 := i64_small (12 + 4 * (k : Int)) (by omega) (by omega)
      have a3 := i64_small (16 + 4 * (k : Int)) (by omega) (by omega)
      have b2 : 12 + 4 * (k : Int) = (p : Int) := by omega
      have b3 : 16 + 4 * (k : Int) = (p : Int) + 4 := by omega
      rw [b2] at a2
      rw [b3] at a3
      have htn : ((p : Int) + 4).toNat = p + 4 := by omega
      have hqq : p + 4 - p = 4 := by omega
      have e0 : 0 ≤ (p : Int) + 4 := by omega
      have e4 : p ≤ p + 4 := by omega
      have e1 : (p : Int) + 4 ≤ (c : Int) := by omega
      have e2 : (p : Int) ≤ (c : Int) := by omega
      have e3 : ¬c = p := by omega
      have e5 : p + 4 ≤ c := hpc
      clear hp
      obtain ⟨u7, u8⟩ := fld_mod bs p HZ.out (by omega)
      have r5 := D.out.hr.at 5 _ rfl
      have hs := D.out.hs
      have h2s : w.heap.size + 2 < wr.heap.size := by omega
      have HA3 := Lib.hid (HA.out.below D.out.hu)
      go_wp2_with fail
      go_region_law (first
        | (refine step_append_one 94 (by rfl) (by rfl) _ _ 24 (by rfl) (w.heap.size + 3) 23 1 4 _ Try.underlying24 info_u32 rfl (by decide) A' k c' _ (by rfl) (Owns.alloc (Owns.drew HO.out) _) wr.heap.size [.int .u32 (fld bs p 4)] rfl (by simp [Value.oneCell']) (by rfl) (Blk.new wr.drew _ _) (by unfold maxLen; omega) (by omega) (by simp; omega) ?_; intro An cn wn hown hgr; have D3 := ((D.out.drew).push _).grown hgr (fun g e => (HO.out.block g e).1) IntsNew.nil IntsNew.nil; have r5' := D3.hr.at 5 _ rfl; have z' := D3.hr.frozen)
        | (go_simp; go_at_call 35; refine (rvalue_fld HA3.out.drew HZ.out p 4 _ (by omega) hpl).mono ?_; rintro e v2 ⟨rfl, rfl⟩))
      all_goals
        go_wp2_with fail
        go_roundg (gk - 1)
        case measure => omega
        case rel =>
          refine ⟨k + 1, An, cn, by omega, by go_num, Lib.hid (D3.set 5 (.slice An (k + 1) cn)), ?_⟩
          have e : u32s ((List.range (k + 1)).map fun i => fld bs (12 + 4 * i) 4) = u32s ((List.range k).map fun i => fld bs (12 + 4 * i) 4) ++ [.int .u32 (fld bs p 4)] := by
            rw [HP.out]
            simp [u32s, List.range_succ]
          rw [e]
          exact Lib.hid (hown.setCell (p := ⟨w.heap.size + 2, 5, none⟩) (fun g e => by have := (hown.block g e).1; simp only; omega) _)
    · obtain rfl : k = mm := by omega
      have hi1 : (k : Int) ≤ (k : Int) := Int.le_refl _
      have hi2 : ¬(k : Int) < (k : Int) := by omega
      obtain ⟨mx, hmx⟩ : ∃ mx, mx = (List.range k).map fun i => fld bs (12 + 4 * i) 4 := ⟨_, rfl⟩
      have HML : Hid (mx.length = k) := Lib.hid (by rw [hmx]; simp)
      have D' := Lib.hid (D.out.setM (IntsNew.of_own (B := w.heap.size + 3) HO.out (Nat.le_refl _)))
      rw [← hmx] at D'
      clear D HO
      have D := D'
      clear D'
      have HMX := Lib.hid hmx
      clear hmx hgk hl12 hlt k1 k3
      have hc0 := hcap.out
      obtain ⟨Q, hQ⟩ : ∃ Q, Q = q := ⟨_, rfl⟩
      have HQB : Hid (Q = Pk.bodyAt bs) := Lib.hid (by unfold Pk.bodyAt; rw [HE.out, if_neg (by decide), ← HMQ.out, hQ, HQ.out])
      have hlQ : Q ≤ bs.length := by omega
      have hlQI : (Q : Int) ≤ (bs.length : Int) := by omega
      have hQc : (Q : Int) ≤ (c : Int) := by omega
      subst hQ
      have hlb := hlen.out
      obtain ⟨L, hL⟩ : ∃ L, L = bs.length - Q := ⟨_, rfl⟩
      have hLQ : L + Q = bs.length := by omega
      have HL := Lib.hid hL
      have HLQ := Lib.hid hLQ
      obtain ⟨M, hM⟩ : ∃ M, M = L := ⟨_, rfl⟩
      have HM := Lib.hid hM
      have hsum : (bs.length : Int) - (Q : Int) = (M : Int) := by omega
      obtain ⟨e, he⟩ : ∃ e, e = bs.length := ⟨_, rfl⟩
      have heQ : Q + M = bs.length := by omega
      have hec : bs.length ≤ c := hcap.out
      clear he e
      subst hM
      clear hL hLQ
      by_cases hlim : 1500 < M
      · have hl1 : (1500 : Int) < (M : Int) := by omega
        have z0 := D.out.hz.frozen
        have y0 := D.out.hz.at 0 _ rfl
        have y1 := D.out.hz.at 1 _ rfl
        have y2 := D.out.hz.at 2 _ rfl
        have y3 := D.out.hz.at 3 _ rfl
        have y4 := D.out.hz.at 4 _ rfl
        have y5 := D.out.hz.at 5 _ rfl
        have y6 := D.out.hz.at 6 _ rfl
        have y7 := D.out.hz.at 7 _ rfl
        have y8 := D.out.hz.at 8 _ rfl
        have y9 := D.out.hz.at 9 _ rfl
        have y10 := D.out.hz.at 10 _ rfl
        have x0' := D.out.hn.at 0 _ rfl
        have x1' := D.out.hn.at 1 _ rfl
        have x2' := D.out.hn.at 2 _ rfl
        have x3' := D.out.hn.at 3 _ rfl
        have x4' := D.out.hn.at 4 _ rfl
        have x5' := D.out.hn.at 5 _ rfl
        have x6' := D.out.hn.at 6 _ rfl
        have x7' := D.out.hn.at 7 _ rfl
        have x8' := D.out.hn.at 8 _ rfl
        have x9' := D.out.hn.at 9 _ rfl
        have x10' := D.out.hn.at 10 _ rfl
        go_wp2_with fail
        have BF := Blk.setRow D.out.hz [.bool false, .int .u8 0, .int .u16 0, .int .u32 0, .int .u32 0, .slice none 0 0, .bool false, .int .u16 0, .slice none 0 0, .slice none 0 0, .int .i64 0] rfl
        have UF := below_setRow (g := w.heap.size) (Nat.le_refl _) [.bool false, .int .u8 0, .int .u16 0, .int .u32 0, .int .u32 0, .slice none 0 0, .bool false, .int .u16 0, .slice none 0 0, .slice none 0 0, .int .i64 0] _ 0 D.out.hu
        simp only [setRow, Nat.zero_add, Nat.reduceAdd] at BF UF
        have hfin : Pk.fin bs 0 = Pk.fin bs 0 := rfl
        have hval : Pk.fin bs 0 = (Pk.Pkt.zero, (Q : Int), 4) := by
          unfold Pk.fin
          have h1 := HLQ.out
          have h2 := HM.out
          rw [← HQB.out, if_pos (by omega)]
        rw [hfin, hval]
        exact bodyPost_ret (v := .tuple #[.agg #[.bool false, .int .u8 0, .int .u16 0, .int .u32 0, .int .u32 0, .slice none 0 0, .bool false, .int .u16 0, .slice none 0 0, .slice none 0 0, .int .i64 0], .int .i64 (Q : Int), .int .u8 4]) (res_ctt Try.results16 rfl (run_loadVar_row (P := Try.prog) _ _ _ _ _ _ _ BF Try.underlying27 rfl (by kernel_rfl)) rfl rfl) rfl ⟨none, 0, none, 0, none, 0, rfl, IntsNew.nil, IntsNew.nil, IntsNew.nil, UF⟩
      · have hl1 : (M : Int) ≤ 1500 := by omega
        go_upto_region 40 with fail
        have e9 : Q ≤ bs.length := by omega
        have e10 : bs.length - Q = M := by omega
        have e11 : (Q : Int) ≤ (bs.length : Int) := by omega
        have e12 : (bs.length : Int) ≤ (c : Int) := by omega
        have r9 := D.out.hr.at 9 _ rfl
        have hpl : ((bs.drop Q).take M).length = M := by have := HLQ.out; simp; omega
        obtain ⟨pl, hpp⟩ : ∃ pl, pl = (bs.drop Q).take M := ⟨_, rfl⟩
        have HPP := Lib.hid hpp
        rw [← hpp] at hpl
        have HPL := Lib.hid hpl
        have HIP : Hid (∀ W, Bel w W → IntsAt W w.heap.size .u8 (if c = Q then some ⟨b, off, none⟩ else some ⟨b, off + Q, none⟩) pl) := Lib.hid fun W hW => by
          rw [hpp]
          exact ints_slice (HA.out.below hW) hcap.out (by have := HLQ.out; omega)
        have hws := D.out.hs
        clear hpl hpp
        have r9' : ({ wr with drawn := wr.drawn + 1 } : World).cell? ⟨w.heap.size + 2, 9, none⟩ = some (.slice none 0 0) := r9
        go_cut [210] (fun s210 w8 => ∃ (A7 : Option Addr) (c7 : Nat), s210 = .slice A7 M c7 ∧ Hid (QState w w8 [.bool mk, .int .u8 (x1 % 128), .int .u16 (fld bs 2 2), .int .u32 (fld bs 4 4), .int .u32 (fld bs 8 4), .slice A' k c', .bool false, .int .u16 0, .slice none 0 0, .slice A7 M c7, .int .i64 0] A' mx none []) ∧ Hid (IntsNew (w.heap.size + 3) w8 .u8 A7 pl))
        case first =>
          go_still_tail 6, (by kernel_rfl)
          generalize (if c = Q then some (⟨b, off, none⟩ : Addr) else some ⟨b, off + Q, none⟩) = AX at HIP ⊢
          change wpList _ _ _ _ _ (World.drew _)
          have hwd : w.heap.size + 3 ≤ wr.drew.heap.size := hws
          go_wp2_with (at_builtin
                       go_loud (refine wpList_append_ints rfl _ _ 25 rfl (w.heap.size + 3) 5 1 (.int .u8 0) Try.underlying25 info_u8 rfl none 0 0 [] rfl Owns.nil w.heap.size .u8 _ _ pl (by rw [HPL.out]; rfl) (HIP.out _ D.out.hu.drew) (by rw [HPL.out]; unfold maxLen; omega) (by rw [HPL.out]; omega) hwd M (by rw [HPL.out]; omega) ?_)
                       intro A7 c7 w7 hown hgr hat
                       have hN7 : IntsNew (w.heap.size + 3) w7 .u8 A7 pl := IntsNew.of_own hown (Nat.le_refl _)
                       have D7 := (D.out.drew).grown hgr (fun g e => by cases e) (D.out.hm.drewG hgr) (D.out.he.drewG hgr)
                       have r9'' := D7.hr.at 9 _ rfl
                       have z9'' := D7.hr.frozen)
          go_meet
          exact ⟨A7, c7, rfl, Lib.hid (D7.set 9 (.slice A7 M c7)), Lib.hid (hN7.setCell (p := ⟨w.heap.size + 2, 9, none⟩) (by simp) (.slice A7 M c7))⟩
        case rest =>
          obtain ⟨A7, c7, rfl, D8, HI8⟩ := hcut
          clear D r9 r9' hws HIP
          have D := D8
          clear D8
          have z9 := D.out.hr.frozen
          have r0 := D.out.hr.at 0 _ rfl
          have r1 := D.out.hr.at 1 _ rfl
          have r2 := D.out.hr.at 2 _ rfl
          have r3 := D.out.hr.at 3 _ rfl
          have r4 := D.out.hr.at 4 _ rfl
          have r5 := D.out.hr.at 5 _ rfl
          have r6 := D.out.hr.at 6 _ rfl
          have r7 := D.out.hr.at 7 _ rfl
          have r8 := D.out.hr.at 8 _ rfl
          have r9 := D.out.hr.at 9 _ rfl
          have r10 := D.out.hr.at 10 _ rfl
          have z0 := D.out.hz.frozen
          have y0 := D.out.hz.at 0 _ rfl
          have y1 := D.out.hz.at 1 _ rfl
          have y2 := D.out.hz.at 2 _ rfl
          have y3 := D.out.hz.at 3 _ rfl
          have y4 := D.out.hz.at 4 _ rfl
          have y5 := D.out.hz.at 5 _ rfl
          have y6 := D.out.hz.at 6 _ rfl
          have y7 := D.out.hz.at 7 _ rfl
          have y8 := D.out.hz.at 8 _ rfl
          have y9 := D.out.hz.at 9 _ rfl
          have y10 := D.out.hz.at 10 _ rfl
          go_wp2_with fail
          clear z9 z0 r0 y0 r1 y1 r2 y2 r3 y3 r4 y4 r5 y5 r6 y6 r7 y7 r8 y8 r9 y9 r10 y10
          have BF := Blk.setRow D.out.hz [.bool mk, .int .u8 (x1 % 128), .int .u16 (fld bs 2 2), .int .u32 (fld bs 4 4), .int .u32 (fld bs 8 4), .slice A' k c', .bool false, .int .u16 0, .slice none 0 0, .slice A7 M c7, .int .i64 0] rfl
          have UF := below_setRow (g := w.heap.size) (Nat.le_refl _) [.bool mk, .int .u8 (x1 % 128), .int .u16 (fld bs 2 2), .int .u32 (fld bs 4 4), .int .u32 (fld bs 8 4), .slice A' k c', .bool false, .int .u16 0, .slice none 0 0, .slice A7 M c7, .int .i64 0] _ 0 D.out.hu
          have R1 := (IntsNew.setRow (g := w.heap.size) (n := w.heap.size + 3) (by omega) [.bool mk, .int .u8 (x1 % 128), .int .u16 (fld bs 2 2), .int .u32 (fld bs 4 4), .int .u32 (fld bs 8 4), .slice A' k c', .bool false, .int .u16 0, .slice none 0 0, .slice A7 M c7, .int .i64 0] _ 0 D.out.hm).less (m := w.heap.size) (by omega)
          have R2 := (IntsNew.setRow (g := w.heap.size) (n := w.heap.size + 3) (by omega) [.bool mk, .int .u8 (x1 % 128), .int .u16 (fld bs 2 2), .int .u32 (fld bs 4 4), .int .u32 (fld bs 8 4), .slice A' k c', .bool false, .int .u16 0, .slice none 0 0, .slice A7 M c7, .int .i64 0] _ 0 D.out.he).less (m := w.heap.size) (by omega)
          have R3 := (IntsNew.setRow (g := w.heap.size) (n := w.heap.size + 3) (by omega) [.bool mk, .int .u8 (x1 % 128), .int .u16 (fld bs 2 2), .int .u32 (fld bs 4 4), .int .u32 (fld bs 8 4), .slice A' k c', .bool false, .int .u16 0, .slice none 0 0, .slice A7 M c7, .int .i64 0] _ 0 HI8.out).less (m := w.heap.size) (by omega)
          simp only [setRow, Nat.zero_add, Nat.reduceAdd] at BF UF R1 R2 R3
          have hfin : Pk.fin bs 0 = Pk.fin bs 0 := rfl
          have hval : Pk.fin bs 0 = (⟨mk, x1 % 128, fld bs 2 2, fld bs 4 4, fld bs 8 4, mx, false, 0, [], pl, 0⟩, 0, 0) := by
            unfold Pk.fin Pk.pkt
            have h1 := HLQ.out
            have h2 := HM.out
            rw [← HQB.out, if_neg (by omega), ← HMQ.out, HE.out, ← HX1.out, ← HMK.out, ← HMX.out, if_neg (by decide), if_neg (by decide)]
            have e : bs.length - Q - 0 = M := by omega
            rw [e, ← HPP.out]
            all_goals rfl
          rw [hfin, hval]
          exact bodyPost_ret (v := .tuple #[.agg #[.bool mk, .int .u8 (x1 % 128), .int .u16 (fld bs 2 2), .int .u32 (fld bs 4 4), .int .u32 (fld bs 8 4), .slice A' k c', .bool false, .int .u16 0, .slice none 0 0, .slice A7 M c7, .int .i64 0], .int .i64 0, .int .u8 0]) (res_ctt Try.results16 rfl (run_loadVar_row (P := Try.prog) _ _ _ _ _ _ _ BF Try.underlying27 rfl (by kernel_rfl)) rfl rfl) rfl ⟨A', c', none, 0, A7, c7, by simp only [Pk.Pkt.row, HML.out, HPL.out, List.length_nil], R1, R2, R3, UF⟩
end
end Go.Proofs.Ytbpcpgmbfnmacaa

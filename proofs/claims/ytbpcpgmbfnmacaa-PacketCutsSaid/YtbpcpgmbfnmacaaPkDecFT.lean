/- Layer 25: Decode of the program: a packet without extension, with padding. -/
import Derived.Test.YtbpcpgmbfnmacaaPkDecS
import Derived.Test.YtbpcpgmbfnmacaaStep
namespace Go.Proofs.Ytbpcpgmbfnmacaa
open Go.RowKit
set_option linter.unusedVariables false
set_option linter.unusedSimpArgs false
attribute [local go_sem] setCell_drewN alloc_drewN
section
variable (A : Option Addr) (bs : List Int) (c : Nat) (w : World)
set_option maxRecDepth 100000 in
set_option maxHeartbeats 6400000 in
theorem PDec_FT (hA : IntsAt w w.heap.size .u8 A bs) (hz : Within 0 255 bs) (hm : bs.length ≤ 100000) (hc : bs.length ≤ c) (h : (Pk.chk bs).2 = 0) (he : Pk.ext bs = false) (hp : bs.getD 0 0 / 32 % 2 = 1) : Calls Try.prog 15 #[.slice A bs.length c] w (PDecR (Pk.decP bs) w) := by
  obtain ⟨hc1, hl12, hmm, hx⟩ := chk_ok bs hz h
  obtain ⟨b, off, rfl, hbB, hcell⟩ := hA (by omega)
  have k1 := checkHead_any (some ⟨b, off, none⟩) bs c (w.alloc (.cells #[.bool false, .int .u8 0, .int .u16 0, .int .u32 0, .int .u32 0, .slice none 0 0, .bool false, .int .u16 0, .slice none 0 0, .slice none 0 0, .int .i64 0] 27)) (hA.push _) hz hm hc
  rw [hc1, h] at k1
  have D := Lib.hid (PState.start hA hz hm hc)
  have K := Lib.hid k1
  have HX := Lib.hid hx
  obtain ⟨m0, n0⟩ := hz.at (i := 0) (by omega)
  obtain ⟨m1, n1⟩ := hz.at (i := 1) (by omega)
  obtain ⟨mm, hmq⟩ : ∃ mm, mm = Pk.many bs := ⟨_, rfl⟩
  rw [← hmq] at hmm hl12
  have HMQ := Lib.hid hmq
  have HE := Lib.hid he
  obtain ⟨x0, hx0⟩ : ∃ x, x = bs.getD 0 0 := ⟨_, rfl⟩
  obtain ⟨x1, hx1⟩ : ∃ x, x = bs.getD 1 0 := ⟨_, rfl⟩
  rw [← hx0] at m0 n0 hmm hp
  rw [← hx1] at m1 n1
  have k15 := and_15 x0 m0 n0
  have k16 := and_16 x0 m0 n0
  have k32 := and_32 x0 m0 n0
  have k127 := and_127 x1 m1 n1
  have k128 := and_128 x1 m1 n1
  obtain ⟨mk, hmk⟩ : ∃ mk, mk = decide (128 ≤ x1) := ⟨_, rfl⟩
  rw [← hmk] at k128
  rw [hmm] at k15
  rw [hp] at k32
  have he' : x0 / 16 % 2 = 0 := by
    have h7 := HE.out
    unfold Pk.ext at h7
    rw [← hx0] at h7
    have := of_decide_eq_false h7; omega
  rw [he'] at k16
  have HX0 := Lib.hid hx0
  have HX1 := Lib.hid hx1
  have HMK := Lib.hid hmk
  have hmb : mm ≤ 15 := by omega
  have hlen := Lib.hid hm
  have hcap := Lib.hid hc
  have hbb : b < w.heap.size + 1 := by omega
  have hbc : b < w.heap.size + 1 + 1 := by omega
  have hne : ¬b = w.heap.size + 2 := by omega
  clear hA hz hm hc hcell k1 hx hc1 h hmq he hx0 hx1 hmk hmm hp he'
  go_enter Try.func15, Try.ntmps15
  go_wp2_with fail
  refine K.out.mono ?_
  rintro e w1 ⟨rfl, rfl⟩
  clear K
  go_wp2_with fail
  refine (D.out.next 12 12 rfl (by omega)).mono ?_
  rintro e v1 ⟨A', rfl, hA', ho, hI, D'⟩
  obtain rfl : A' = some ⟨b, off, none⟩ := hA' (by omega)
  clear D hA' ho hI
  have D := D'
  clear D'
  have q0 : v1.cell? ⟨b, off, none⟩ = some (.int .u8 x0) := by rw [HX0.out]; exact D.out.byte 0 (by omega)
  have q1 : v1.cell? ⟨b, off + 1, none⟩ = some (.int .u8 x1) := by rw [HX1.out]; exact D.out.byte 1 (by omega)
  have z := D.out.hr.frozen
  have r0 := D.out.hr.at 0 _ rfl
  have r1 := D.out.hr.at 1 _ rfl
  have r6 := D.out.hr.at 6 _ rfl
  go_wp2_with fail
  clear z r0 r1 r6
  have D' : Hid (PState w _ b off c bs 12 [.bool mk, .int .u8 (x1 % 128), .int .u16 0, .int .u32 0, .int .u32 0, .slice none 0 0, .bool false, .int .u16 0, .slice none 0 0, .slice none 0 0, .int .i64 0] none [] none []) := Lib.hid (((D.out.set 6 (.bool false)).set 0 (.bool mk)).set 1 (.int .u8 (x1 % 128)))
  clear D
  have D := D'
  clear D'
  obtain ⟨u1, u2, u3, u4⟩ := fld_mod2 bs 2 D.out.bytes (by omega)
  refine (number_fld D.out.intsx D.out.bytes 2 2 _ (by omega) (by omega)).mono ?_
  rintro e w1 ⟨rfl, rfl⟩
  have z := D.out.hr.frozen
  have r2 := D.out.hr.at 2 _ rfl
  go_wp2_with fail
  clear z r2 u1 u2 u3 u4
  have D' : Hid (PState w _ b off c bs 12 [.bool mk, .int .u8 (x1 % 128), .int .u16 (fld bs 2 2), .int .u32 0, .int .u32 0, .slice none 0 0, .bool false, .int .u16 0, .slice none 0 0, .slice none 0 0, .int .i64 0] none [] none []) := Lib.hid (D.out.set 2 (.int .u16 (fld bs 2 2)))
  clear D
  have D := D'
  clear D'
  refine (number_fld D.out.intsx D.out.bytes 4 4 _ (by omega) (by omega)).mono ?_
  rintro e w1 ⟨rfl, rfl⟩
  have z := D.out.hr.frozen
  have r3 := D.out.hr.at 3 _ rfl
  go_wp2_with fail
  clear z r3
  have D' : Hid (PState w _ b off c bs 12 [.bool mk, .int .u8 (x1 % 128), .int .u16 (fld bs 2 2), .int .u32 (fld bs 4 4), .int .u32 0, .slice none 0 0, .bool false, .int .u16 0, .slice none 0 0, .slice none 0 0, .int .i64 0] none [] none []) := Lib.hid (D.out.set 3 (.int .u32 (fld bs 4 4)))
  clear D
  have D := D'
  clear D'
  refine (number_fld D.out.intsx D.out.bytes 8 4 _ (by omega) (by omega)).mono ?_
  rintro e w1 ⟨rfl, rfl⟩
  have z := D.out.hr.frozen
  have r4 := D.out.hr.at 4 _ rfl
  go_wp2_with fail
  clear z r4
  have D' : Hid (PState w _ b off c bs 12 [.bool mk, .int .u8 (x1 % 128), .int .u16 (fld bs 2 2), .int .u32 (fld bs 4 4), .int .u32 (fld bs 8 4), .slice none 0 0, .bool false, .int .u16 0, .slice none 0 0, .slice none 0 0, .int .i64 0] none [] none []) := Lib.hid (D.out.set 4 (.int .u32 (fld bs 8 4)))
  clear D
  have D := D'
  clear D'
  go_loopg [68] mm (fun gk s68 wr => ∃ (k : Nat) (A' : Option Addr) (c' : Nat), gk + k = mm ∧ s68 = .int .u8 k ∧ Hid (PState w wr b off c bs (12 + 4 * k) [.bool mk, .int .u8 (x1 % 128), .int .u16 (fld bs 2 2), .int .u32 (fld bs 4 4), .int .u32 (fld bs 8 4), .slice A' k c', .bool false, .int .u16 0, .slice none 0 0, .slice none 0 0, .int .i64 0] none [] none []) ∧ Hid (Owns wr (w.heap.size + 3) 23 1 A' k c' (u32s ((List.range k).map fun i => fld bs (12 + 4 * i) 4))))
  case atStart => exact ⟨0, none, 0, rfl, rfl, D, Lib.hid Owns.nil⟩
  case round =>
    clear D q0 q1
    obtain ⟨k, A', c', hgk, rfl, D, HO⟩ := hrel
    by_cases hlt : k < mm
    · obtain ⟨q, hq⟩ : ∃ q, q = 12 + 4 * k := ⟨_, rfl⟩
      rw [← hq] at D
      have hql : q + 4 ≤ bs.length := by omega
      have HQ := Lib.hid hq
      clear hq
      have hi1 : (k : Int) < (mm : Int) := by omega
      have hi2 : ((k : Int) + 1) % 256 = (k : Int) + 1 := by omega
      have hi3 : IntKind.u8.wrap ((k : Int) + 1) = (k : Int) + 1 := by rw [u8_wrap]; omega
      have r5 := D.out.hr.at 5 _ rfl
      have hs := D.out.hs
      go_wp2_with fail
      go_region_law (first
        | (refine step_append_one 76 (by rfl) (by rfl) _ _ 24 (by rfl) (w.heap.size + 3) 23 1 4 _ Try.underlying24 info_u32 rfl (by decide) A' k c' _ (by rfl) (Owns.alloc HO2 _) v1.heap.size [.int .u32 (fld bs q 4)] rfl (by simp [Value.oneCell']) (by rfl) (Blk.new v1 _ _) (by unfold maxLen; omega) (by omega) (by simp; omega) ?_; intro An cn wn hown hgr; have D3 := (D2.push _).grown hgr (fun g e => (HO2.block g e).1) IntsNew.nil IntsNew.nil; have r5' := D3.hr.at 5 _ rfl; have z' := D3.hr.frozen)
        | (go_simp; go_at_call 31; refine (D.out.drew.next 4 (q + 4) rfl hql).mono ?_; rintro e v1 ⟨A4, rfl, hA4, ho, hI, hD⟩; clear hA4; have D2 := hD.out; have HO2 := own_only HO.out.drew ho (by omega); have hs2 := D2.hs; have r5'' : v1.cell? ⟨w.heap.size + 1 + 1, 5, none⟩ = some (.slice A' k c') := D2.hr.at 5 _ rfl; have h2s' : w.heap.size + 1 + 1 < v1.heap.size := by omega)
        | (go_simp; go_at_call 32; refine (number_part hI.out D2.bytes _ (by omega) hql).mono ?_; rintro e v2 ⟨rfl, rfl⟩))
      all_goals
        go_wp2_with fail
        go_roundg (gk - 1)
        case measure => omega
        case rel =>
          refine ⟨k + 1, An, cn, by omega, by go_num, ?_, ?_⟩
          · have e : 12 + 4 * (k + 1) = q + 4 := by have := HQ.out; omega
            rw [e]
            exact Lib.hid (D3.set 5 (.slice An (k + 1) cn))
          · have e : u32s ((List.range (k + 1)).map fun i => fld bs (12 + 4 * i) 4) = u32s ((List.range k).map fun i => fld bs (12 + 4 * i) 4) ++ [.int .u32 (fld bs q 4)] := by
              rw [HQ.out]
              simp [u32s, List.range_succ]
            rw [e]
            exact Lib.hid (hown.setCell (p := ⟨w.heap.size + 2, 5, none⟩) (fun g e => by have := (hown.block g e).1; simp only; omega) _)
    · obtain rfl : k = mm := by omega
      have hi1 : (k : Int) ≤ (k : Int) := Int.le_refl _
      obtain ⟨mx, hmx⟩ : ∃ mx, mx = (List.range k).map fun i => fld bs (12 + 4 * i) 4 := ⟨_, rfl⟩
      have HML : Hid (mx.length = k) := Lib.hid (by rw [hmx]; simp)
      have D' := Lib.hid (D.out.setM (IntsNew.of_own (B := w.heap.size + 3) HO.out (Nat.le_refl _)))
      rw [← hmx] at D'
      clear D HO
      have D := D'
      clear D'
      have HMX := Lib.hid hmx
      clear hmx hgk k15 k16 k32 k127 k128 m0 n0 m1 n1
      obtain ⟨q, hq⟩ : ∃ q, q = 12 + 4 * k := ⟨_, rfl⟩
      rw [← hq] at D
      have hlq : q ≤ bs.length := by omega
      have HQ := Lib.hid hq
      clear hl12 hlt
      have r6 := D.out.hr.at 6 _ rfl
      go_upto_region 22 with fail
      clear r6
      obtain ⟨Q, hQ⟩ : ∃ Q, Q = q := ⟨_, rfl⟩
      have HQB : Hid (Q = Pk.bodyAt bs) := Lib.hid (by unfold Pk.bodyAt; rw [HE.out, if_neg (by decide), ← HMQ.out, hQ, hq])
      rw [← hQ] at D
      have hlQ : Q ≤ bs.length := by omega
      clear hQ hq
      obtain ⟨L, hL⟩ : ∃ L, L = bs.length - Q := ⟨_, rfl⟩
      have hLQ : L + Q = bs.length := by omega
      have hL5 : L ≤ 100000 := by have := hlen.out; omega
      obtain ⟨o', hgb, hrest⟩ := D.out.rest
      rw [← hL] at hgb
      obtain ⟨C, hC⟩ : ∃ C, C = c - Q := ⟨_, rfl⟩
      rw [← hC] at hgb
      have g0 := hgb.at 0 _ rfl
      have HL := Lib.hid hL
      have HLQ := Lib.hid hLQ
      have HR := Lib.hid hrest
      clear hgb hL hC hrest hlQ hLQ
      go_wp2_with fail
      clear g0
      refine (padding_rest HR.out D.out.hu.size (D.out.bytes.drop Q) L C (by rw [List.length_drop]; exact HL.out.symm) hL5).mono ?_
      have hpo := Pk.padR_ok (bs.drop Q) (D.out.bytes.drop Q)
      have hpe := Pk.padR_err (bs.drop Q)
      obtain ⟨P, hP⟩ : ∃ P, P = Pk.padR (bs.drop Q) := ⟨_, rfl⟩
      rw [← hP] at hpo hpe ⊢
      rw [List.length_drop, ← HL.out] at hpo hpe
      have HP := Lib.hid hP
      clear hP
      obtain ⟨pn, pa, pe⟩ := P
      simp only at hpo hpe
      have HPO := Lib.hid hpo
      have HPE := Lib.hid hpe
      clear hpo hpe
      rintro e w1 ⟨rfl, rfl⟩
      by_cases hpe0 : pe = 0
      rotate_left
      · have hpb : (pe != 0) = true := by simpa using hpe0
        obtain ⟨b1, b2⟩ := HPE.out hpe0
        have HPE0 := Lib.hid hpe0
        clear hpe0
        obtain ⟨o2, hgb, _⟩ := D.out.rest
        rw [← HL.out] at hgb
        have g0 := hgb.at 0 _ rfl
        clear hgb
        go_wp2_with fail
        have hb1 : (bs.length : Int) ≤ 100000 := by have := hlen.out; omega
        have hb2 : (L : Int) ≤ (bs.length : Int) := by have := HLQ.out; omega
        have z := D.out.hz.frozen
        have y0 := D.out.hz.at 0 _ rfl
        have y1 := D.out.hz.at 1 _ rfl
        have y2 := D.out.hz.at 2 _ rfl
        have y3 := D.out.hz.at 3 _ rfl
        have y4 := D.out.hz.at 4 _ rfl
        have y5 := D.out.hz.at 5 _ rfl
        have y6 := D.out.hz.at 6 _ rfl
        have y7 := D.out.hz.at 7 _ rfl
        have y8 := D.out.hz.at 8 _ rfl
        have y9 := D.out.hz.at 9 _ rfl
        have y10 := D.out.hz.at 10 _ rfl
        go_region
        all_goals
          go_wp2_with fail
          have BF := (Blk.setRow D.out.hz [.bool false, .int .u8 0, .int .u16 0, .int .u32 0, .int .u32 0, .slice none 0 0, .bool false, .int .u16 0, .slice none 0 0, .slice none 0 0, .int .i64 0] rfl).drew
          have UF := Bel.drew (below_setRow (g := w.heap.size) (Nat.le_refl _) [.bool false, .int .u8 0, .int .u16 0, .int .u32 0, .int .u32 0, .slice none 0 0, .bool false, .int .u16 0, .slice none 0 0, .slice none 0 0, .int .i64 0] _ 0 D.out.hu)
          simp only [setRow, Nat.zero_add, Nat.reduceAdd] at BF UF
          have hval : Pk.decP bs = (Pk.Pkt.zero, (bs.length : Int) - L + pa, pe) := by
            unfold Pk.decP
            rw [← HQB.out, ← HP.out, if_pos HPE0.out]
            have := HLQ.out
            have e : (Q : Int) = (bs.length : Int) - L := by omega
            rw [e]
          rw [hval]
          exact bodyPost_ret (v := .tuple #[.agg #[.bool false, .int .u8 0, .int .u16 0, .int .u32 0, .int .u32 0, .slice none 0 0, .bool false, .int .u16 0, .slice none 0 0, .slice none 0 0, .int .i64 0], .int .i64 ((bs.length : Int) - L + pa), .int .u8 pe]) (res_ctt Try.results15 rfl (run_loadVar_row (P := Try.prog) _ _ _ _ _ _ _ BF Try.underlying27 rfl (by kernel_rfl)) rfl rfl) rfl ⟨none, 0, none, 0, none, 0, rfl, IntsNew.nil, IntsNew.nil, IntsNew.nil, UF⟩
      obtain rfl := hpe0
      obtain ⟨N, rfl, hN1, hN2⟩ := HPO.out rfl
      clear HPE HPO
      have HN1 := Lib.hid hN1
      obtain ⟨M, hM⟩ : ∃ M, M = L - N := ⟨_, rfl⟩
      have hMN : (L : Int) - (N : Int) = (M : Int) := by omega
      have hML : M ≤ L := by omega
      have HM := Lib.hid hM
      have hMQ : Q + M ≤ bs.length := by have := HLQ.out; omega
      clear hM hN1
      obtain ⟨o3, hgb, _⟩ := D.out.rest
      rw [← HL.out] at hgb
      have g0 := hgb.at 0 _ rfl
      obtain ⟨C3, hC3⟩ : ∃ C, C = c - Q := ⟨_, rfl⟩
      rw [← hC3] at g0
      clear hgb hC3
      have z := D.out.hr.frozen
      have r10 := D.out.hr.at 10 _ rfl
      by_cases hlim : 1500 < M
      · have hl1 : (1500 : Int) < (M : Int) := by omega
        go_wp2_with fail
        have D' : Hid (PState w _ b off c bs Q [.bool mk, .int .u8 (x1 % 128), .int .u16 (fld bs 2 2), .int .u32 (fld bs 4 4), .int .u32 (fld bs 8 4), .slice A' k c', .bool false, .int .u16 0, .slice none 0 0, .slice none 0 0, .int .i64 N] A' mx none []) := Lib.hid (D.out.set 10 (.int .i64 N))
        clear D z r10
        have D := D'
        clear D'
        obtain ⟨o4, hgb, _⟩ := D.out.rest
        rw [← HL.out] at hgb
        have g4 := hgb.at 0 _ rfl
        clear hgb g0
        have hb1 : (bs.length : Int) ≤ 100000 := by have := hlen.out; omega
        have hb2 : (L : Int) ≤ (bs.length : Int) := by have := HLQ.out; omega
        have z := D.out.hz.frozen
        have y0 := D.out.hz.at 0 _ rfl
        have y1 := D.out.hz.at 1 _ rfl
        have y2 := D.out.hz.at 2 _ rfl
        have y3 := D.out.hz.at 3 _ rfl
        have y4 := D.out.hz.at 4 _ rfl
        have y5 := D.out.hz.at 5 _ rfl
        have y6 := D.out.hz.at 6 _ rfl
        have y7 := D.out.hz.at 7 _ rfl
        have y8 := D.out.hz.at 8 _ rfl
        have y9 := D.out.hz.at 9 _ rfl
        have y10 := D.out.hz.at 10 _ rfl
        go_region
        all_goals
          go_wp2_with fail
          have BF := (Blk.setRow D.out.hz [.bool false, .int .u8 0, .int .u16 0, .int .u32 0, .int .u32 0, .slice none 0 0, .bool false, .int .u16 0, .slice none 0 0, .slice none 0 0, .int .i64 0] rfl).drew
          have UF := Bel.drew (below_setRow (g := w.heap.size) (Nat.le_refl _) [.bool false, .int .u8 0, .int .u16 0, .int .u32 0, .int .u32 0, .slice none 0 0, .bool false, .int .u16 0, .slice none 0 0, .slice none 0 0, .int .i64 0] _ 0 D.out.hu)
          simp only [setRow, Nat.zero_add, Nat.reduceAdd] at BF UF
          have hfin : Pk.decP bs = Pk.fin bs N := by
            unfold Pk.decP
            rw [← HQB.out, ← HP.out, if_neg (by simp)]
            simp
          have hval : Pk.fin bs N = (Pk.Pkt.zero, (bs.length : Int) - L, 4) := by
            unfold Pk.fin
            have h1 := HLQ.out
            have h2 := HM.out
            rw [← HQB.out, if_pos (by omega)]
            have e : (Q : Int) = (bs.length : Int) - L := by omega
            rw [e]
          rw [hfin, hval]
          exact bodyPost_ret (v := .tuple #[.agg #[.bool false, .int .u8 0, .int .u16 0, .int .u32 0, .int .u32 0, .slice none 0 0, .bool false, .int .u16 0, .slice none 0 0, .slice none 0 0, .int .i64 0], .int .i64 ((bs.length : Int) - L), .int .u8 4]) (res_ctt Try.results15 rfl (run_loadVar_row (P := Try.prog) _ _ _ _ _ _ _ BF Try.underlying27 rfl (by kernel_rfl)) rfl rfl) rfl ⟨none, 0, none, 0, none, 0, rfl, IntsNew.nil, IntsNew.nil, IntsNew.nil, UF⟩
      · have hl1 : (M : Int) ≤ 1500 := by omega
        go_wp2_with fail
        clear g0
        have D' : Hid (PState w _ b off c bs Q [.bool mk, .int .u8 (x1 % 128), .int .u16 (fld bs 2 2), .int .u32 (fld bs 4 4), .int .u32 (fld bs 8 4), .slice A' k c', .bool false, .int .u16 0, .slice none 0 0, .slice none 0 0, .int .i64 N] A' mx none []) := Lib.hid (D.out.set 10 (.int .i64 N))
        clear D z r10
        have D := D'
        clear D'
        refine (D.out.next M (Q + M) rfl hMQ).mono ?_
        rintro e v6 ⟨A6, rfl, hA6, ho, hI, D'⟩
        clear D hA6 ho
        have D := D'
        clear D'
        go_wp2_with fail
        have hpl : ((bs.drop Q).take M).length = M := by have := HLQ.out; simp; omega
        refine (clone_any hI.out D.out.hu.size M _ hpl (by omega)).mono ?_
        obtain ⟨pl, hpp⟩ : ∃ pl, pl = (bs.drop Q).take M := ⟨_, rfl⟩
        have HPP := Lib.hid hpp
        rw [← hpp] at hpl ⊢
        have HPL := Lib.hid hpl
        clear hpl hpp hI
        rintro e v7 ⟨A7, c7, rfl, hI, hB⟩
        rw [HPL.out]
        have D' := Lib.hid (D.out.later hB)
        have HI7 := Lib.hid (hI.less D.out.hs)
        clear D hI hB
        have D := D'
        clear D'
        have z := D.out.hr.frozen
        have r0 := D.out.hr.at 0 _ rfl
        have r1 := D.out.hr.at 1 _ rfl
        have r2 := D.out.hr.at 2 _ rfl
        have r3 := D.out.hr.at 3 _ rfl
        have r4 := D.out.hr.at 4 _ rfl
        have r5 := D.out.hr.at 5 _ rfl
        have r6 := D.out.hr.at 6 _ rfl
        have r7 := D.out.hr.at 7 _ rfl
        have r8 := D.out.hr.at 8 _ rfl
        have r9 := D.out.hr.at 9 _ rfl
        have r10 := D.out.hr.at 10 _ rfl
        have y := D.out.hz.frozen
        have y0 := D.out.hz.at 0 _ rfl
        have y1 := D.out.hz.at 1 _ rfl
        have y2 := D.out.hz.at 2 _ rfl
        have y3 := D.out.hz.at 3 _ rfl
        have y4 := D.out.hz.at 4 _ rfl
        have y5 := D.out.hz.at 5 _ rfl
        have y6 := D.out.hz.at 6 _ rfl
        have y7 := D.out.hz.at 7 _ rfl
        have y8 := D.out.hz.at 8 _ rfl
        have y9 := D.out.hz.at 9 _ rfl
        have y10 := D.out.hz.at 10 _ rfl
        go_wp2_with fail
        clear z r0 r1 r2 r3 r4 r5 r6 r7 r8 r9 r10 y y0 y1 y2 y3 y4 y5 y6 y7 y8 y9 y10
        have D' : Hid (PState w _ b off c bs (Q + M) [.bool mk, .int .u8 (x1 % 128), .int .u16 (fld bs 2 2), .int .u32 (fld bs 4 4), .int .u32 (fld bs 8 4), .slice A' k c', .bool false, .int .u16 0, .slice none 0 0, .slice A7 M c7, .int .i64 N] A' mx none []) := Lib.hid (D.out.set 9 (.slice A7 M c7))
        have HI8 := HI7.out.setCell (p := ⟨w.heap.size + 2, 9, none⟩) (by simp) (.slice A7 M c7)
        have BF := Blk.setRow D'.out.hz [.bool mk, .int .u8 (x1 % 128), .int .u16 (fld bs 2 2), .int .u32 (fld bs 4 4), .int .u32 (fld bs 8 4), .slice A' k c', .bool false, .int .u16 0, .slice none 0 0, .slice A7 M c7, .int .i64 N] rfl
        have UF := below_setRow (g := w.heap.size) (Nat.le_refl _) [.bool mk, .int .u8 (x1 % 128), .int .u16 (fld bs 2 2), .int .u32 (fld bs 4 4), .int .u32 (fld bs 8 4), .slice A' k c', .bool false, .int .u16 0, .slice none 0 0, .slice A7 M c7, .int .i64 N] _ 0 D'.out.hu
        have R1 := (IntsNew.setRow (g := w.heap.size) (n := w.heap.size + 3) (by omega) [.bool mk, .int .u8 (x1 % 128), .int .u16 (fld bs 2 2), .int .u32 (fld bs 4 4), .int .u32 (fld bs 8 4), .slice A' k c', .bool false, .int .u16 0, .slice none 0 0, .slice A7 M c7, .int .i64 N] _ 0 D'.out.hm).less (m := w.heap.size) (by omega)
        have R2 := (IntsNew.setRow (g := w.heap.size) (n := w.heap.size + 3) (by omega) [.bool mk, .int .u8 (x1 % 128), .int .u16 (fld bs 2 2), .int .u32 (fld bs 4 4), .int .u32 (fld bs 8 4), .slice A' k c', .bool false, .int .u16 0, .slice none 0 0, .slice A7 M c7, .int .i64 N] _ 0 D'.out.he).less (m := w.heap.size) (by omega)
        have R3 := (IntsNew.setRow (g := w.heap.size) (n := w.heap.size + 3) (by omega) [.bool mk, .int .u8 (x1 % 128), .int .u16 (fld bs 2 2), .int .u32 (fld bs 4 4), .int .u32 (fld bs 8 4), .slice A' k c', .bool false, .int .u16 0, .slice none 0 0, .slice A7 M c7, .int .i64 N] _ 0 HI8).less (m := w.heap.size) (by omega)
        simp only [setRow, Nat.zero_add, Nat.reduceAdd] at BF UF R1 R2 R3
        have hfin : Pk.decP bs = Pk.fin bs N := by
          unfold Pk.decP
          rw [← HQB.out, ← HP.out, if_neg (by simp)]
          simp
        have hval : Pk.fin bs N = (⟨mk, x1 % 128, fld bs 2 2, fld bs 4 4, fld bs 8 4, mx, false, 0, [], pl, N⟩, 0, 0) := by
          unfold Pk.fin Pk.pkt
          have h1 := HLQ.out
          have h2 := HM.out
          have h3 := HL.out
          rw [← HQB.out, if_neg (by omega), ← HMQ.out, HE.out, ← HX1.out, ← HMK.out, ← HMX.out, if_neg (by decide), if_neg (by decide)]
          have e : bs.length - Q - N = M := by omega
          rw [e, ← HPP.out]
          all_goals rfl
        rw [hfin, hval]
        exact bodyPost_ret (v := .tuple #[.agg #[.bool mk, .int .u8 (x1 % 128), .int .u16 (fld bs 2 2), .int .u32 (fld bs 4 4), .int .u32 (fld bs 8 4), .slice A' k c', .bool false, .int .u16 0, .slice none 0 0, .slice A7 M c7, .int .i64 N], .int .i64 0, .int .u8 0]) (res_ctt Try.results15 rfl (run_loadVar_row (P := Try.prog) _ _ _ _ _ _ _ BF Try.underlying27 rfl (by kernel_rfl)) rfl rfl) rfl ⟨A', c', none, 0, A7, c7, by simp only [Pk.Pkt.row, HML.out, HPL.out, List.length_nil], R1, R2, R3, UF⟩
end
end Go.Proofs.Ytbpcpgmbfnmacaa

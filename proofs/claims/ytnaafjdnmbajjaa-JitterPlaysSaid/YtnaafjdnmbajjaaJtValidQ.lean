/- Layer 30: Valid of the program. -/
import Derived.Test.YtnaafjdnmbajjaaJtVNums
import Derived.Test.YtnaafjdnmbajjaaJtRun
import Derived.Test.YtnaafjdnmbajjaaJtRun2
import Derived.Test.YtnaafjdnmbajjaaJtRun3
namespace Go.Proofs.Ytnaafjdnmbajjaa
open Go.RowKit
set_option linter.unusedVariables false
set_option linter.unusedSimpArgs false
attribute [local go_sem ↓] run_min_plain run_max_plain
attribute [local go_sem] setCell_drewN alloc_drewN
set_option maxRecDepth 100000 in
set_option maxHeartbeats 12800000 in
theorem valid_more (le mo nw : Int) (on : Bool) (ze fi hi dn sp tr : Int) (A : Option Addr) (l : List TW) (n qc : Nat) (la tw pd : Int) (w : World) (hn : l.length = n) (hl : n ≤ 100000) (hA : Wts w w.heap.size A l) (hK : ∀ a ∈ l, I64 a.w.m.sq) (hx : Jb.Jt.nums ⟨le, mo, nw, on, ze, fi, hi, dn, sp, tr, l.map TW.w, la, tw, pd⟩) (v : Bool) (hv : v = Jb.valid ⟨le, mo, nw, on, ze, fi, hi, dn, sp, tr, l.map TW.w, la, tw, pd⟩) : Calls Try.prog 21 #[.agg #[.int .i64 le, .int .i64 mo, .int .i64 nw, .bool on, .int .i64 ze, .int .i64 fi, .int .i64 hi, .int .i64 dn, .int .i64 sp, .int .i64 tr, .slice A n qc, .int .i64 la, .int .i64 tw, .int .i64 pd]] w fun e w' => e = .returned (.bool v) ∧ Below w.heap.size w w' := by
  subst hn
  have HX := Lib.hid hx
  have HV := Lib.hid hv
  clear hv
  obtain ⟨⟨h0, h1⟩, ⟨h2, h3⟩, ⟨h4, h5⟩, ⟨h6, h7⟩, ⟨h8, h9⟩, ⟨h10, h11⟩, ⟨h12, h13⟩⟩ := hx
  replace h0 : 0 ≤ nw := h0
  replace h1 : nw ≤ 281474976710656 := h1
  replace h2 : -1125899906842624 ≤ ze := h2
  replace h3 : ze ≤ 1125899906842624 := h3
  replace h4 : -1125899906842624 ≤ tr := h4
  replace h5 : tr ≤ 1125899906842624 := h5
  replace h6 : -281474976710656 ≤ fi := h6
  replace h7 : fi ≤ 281474976710656 := h7
  replace h8 : -1 ≤ hi := h8
  replace h9 : hi ≤ 281474976710656 := h9
  replace h10 : -1 ≤ dn := h10
  replace h11 : dn ≤ 281474976710656 := h11
  replace h12 : 0 ≤ sp := h12
  replace h13 : sp ≤ 72057594037927936 := h13
  obtain ⟨cv, hcv⟩ : ∃ cv, cv = decide (1 ≤ le ∧ le ≤ mo ∧ mo ≤ 1000) := ⟨_, rfl⟩
  have k1 := Lib.hid fun W => config_any le mo W cv hcv
  have HC : Hid (cv = decide (Jb.cfg le mo)) := Lib.hid hcv
  clear hcv
  have HA := Lib.hid hA
  have HK := Lib.hid hK
  clear hA hK
  have BS := Lib.hid (Blk.new w 26 #[.int .i64 le, .int .i64 mo, .int .i64 nw, .bool on, .int .i64 ze, .int .i64 fi, .int .i64 hi, .int .i64 dn, .int .i64 sp, .int .i64 tr, .slice A l.length qc, .int .i64 la, .int .i64 tw, .int .i64 pd])
  have U0 := Lib.hid ((Bel.refl w).push (.cells #[.int .i64 le, .int .i64 mo, .int .i64 nw, .bool on, .int .i64 ze, .int .i64 fi, .int .i64 hi, .int .i64 dn, .int .i64 sp, .int .i64 tr, .slice A l.length qc, .int .i64 la, .int .i64 tw, .int .i64 pd] 26))
  cases cv
  · have hv : v = false := by rw [HV.out]; exact ok_cfg (fun h => by have h2 := HC.out; rw [eq_comm, decide_eq_false_iff_not] at h2; exact h2 h)
    subst hv
    go_enter Try.func21, Try.ntmps21
    go_wp2_with fail
    refine (k1.out _).mono ?_
    rintro e w1 ⟨rfl, hb1⟩
    have U1 := Lib.hid (U0.out.later hb1)
    clear hb1
    go_wp2_with fail
    go_ret
    exact ⟨rfl, U1.out⟩
  have HCF : Hid (Jb.cfg le mo) := Lib.hid (by have h2 := HC.out; rw [eq_comm, decide_eq_true_iff] at h2; exact h2)
  clear HC
  go_enter Try.func21, Try.ntmps21
  go_wp2_with fail
  refine (k1.out _).mono ?_
  rintro e w1 ⟨rfl, hb1⟩
  have U1 := Lib.hid (U0.out.later hb1)
  have BS1 := Lib.hid (BS.out.later hb1)
  clear hb1 BS U0
  have g11 := BS1.out.at 11 _ rfl
  have g12 := BS1.out.at 12 _ rfl
  have g13 := BS1.out.at 13 _ rfl
  go_wp2_with fail
  go_loop [90] (fun i => ∃ k : Nat, k ≤ 3 ∧ i = .int .i64 k ∧ Hid ((0 < k → (0 ≤ la ∧ la ≤ 281474976710656)) ∧ (1 < k → (0 ≤ tw ∧ tw ≤ 281474976710656)) ∧ (2 < k → (0 ≤ pd ∧ pd ≤ 281474976710656)))) (fun i => 3 - (intOf i).toNat)
  case atStart => exact ⟨0, by omega, rfl, Lib.hid ⟨fun h => absurd h (by omega), fun h => absurd h (by omega), fun h => absurd h (by omega)⟩⟩
  case round =>
    obtain ⟨k, hk, rfl, HT⟩ := hrel
    have UE := Lib.hid (U1.out.push (.cells #[.int .i64 la, .int .i64 tw, .int .i64 pd] 3))
    have hk4 : k = 0 ∨ k = 1 ∨ k = 2 ∨ k = 3 := by omega
    rcases hk4 with rfl | rfl | rfl | rfl
    · by_cases c1 : la < 0
      · have hv : v = false := by rw [HV.out]; refine ok_cnts (fun h => ?_); obtain ⟨⟨z1, z2⟩, ⟨z3, z4⟩, ⟨z5, z6⟩⟩ := h; simp only at z1 z2 z3 z4 z5 z6; omega
        subst hv
        go_wp2_with fail
        go_ret
        exact ⟨rfl, UE.out⟩
      have c1' : 0 ≤ la := by omega
      by_cases c2 : 281474976710656 < la
      · have hv : v = false := by rw [HV.out]; refine ok_cnts (fun h => ?_); obtain ⟨⟨z1, z2⟩, ⟨z3, z4⟩, ⟨z5, z6⟩⟩ := h; simp only at z1 z2 z3 z4 z5 z6; omega
        subst hv
        go_wp2_with fail
        go_ret
        exact ⟨rfl, UE.out⟩
      have c2' : la ≤ 281474976710656 := by omega
      go_wp2_with fail
      go_round
      case measure => simp [intOf]
      case rel => exact ⟨1, by omega, by go_num, Lib.hid ⟨fun _ => ⟨c1', c2'⟩, fun h => absurd h (by omega), fun h => absurd h (by omega)⟩⟩
    · by_cases c1 : tw < 0
      · have hv : v = false := by rw [HV.out]; refine ok_cnts (fun h => ?_); obtain ⟨⟨z1, z2⟩, ⟨z3, z4⟩, ⟨z5, z6⟩⟩ := h; simp only at z1 z2 z3 z4 z5 z6; omega
        subst hv
        go_wp2_with fail
        go_ret
        exact ⟨rfl, UE.out⟩
      have c1' : 0 ≤ tw := by omega
      by_cases c2 : 281474976710656 < tw
      · have hv : v = false := by rw [HV.out]; refine ok_cnts (fun h => ?_); obtain ⟨⟨z1, z2⟩, ⟨z3, z4⟩, ⟨z5, z6⟩⟩ := h; simp only at z1 z2 z3 z4 z5 z6; omega
        subst hv
        go_wp2_with fail
        go_ret
        exact ⟨rfl, UE.out⟩
      have c2' : tw ≤ 281474976710656 := by omega
      go_wp2_with fail
      go_round
      case measure => simp [intOf]
      case rel => exact ⟨2, by omega, by go_num, Lib.hid ⟨fun _ => HT.out.1 (by omega), fun _ => ⟨c1', c2'⟩, fun h => absurd h (by omega)⟩⟩
    · by_cases c1 : pd < 0
      · have hv : v = false := by rw [HV.out]; refine ok_cnts (fun h => ?_); obtain ⟨⟨z1, z2⟩, ⟨z3, z4⟩, ⟨z5, z6⟩⟩ := h; simp only at z1 z2 z3 z4 z5 z6; omega
        subst hv
        go_wp2_with fail
        go_ret
        exact ⟨rfl, UE.out⟩
      have c1' : 0 ≤ pd := by omega
      by_cases c2 : 281474976710656 < pd
      · have hv : v = false := by rw [HV.out]; refine ok_cnts (fun h => ?_); obtain ⟨⟨z1, z2⟩, ⟨z3, z4⟩, ⟨z5, z6⟩⟩ := h; simp only at z1 z2 z3 z4 z5 z6; omega
        subst hv
        go_wp2_with fail
        go_ret
        exact ⟨rfl, UE.out⟩
      have c2' : pd ≤ 281474976710656 := by omega
      go_wp2_with fail
      go_round
      case measure => simp [intOf]
      case rel => exact ⟨3, by omega, by go_num, Lib.hid ⟨fun _ => HT.out.1 (by omega), fun _ => HT.out.2.1 (by omega), fun _ => ⟨c1', c2'⟩⟩⟩
    · have HCN : Hid (Jb.Jt.cnts ⟨le, mo, nw, on, ze, fi, hi, dn, sp, tr, l.map TW.w, la, tw, pd⟩) := Lib.hid ⟨HT.out.1 (by omega), HT.out.2.1 (by omega), HT.out.2.2 (by omega)⟩
      have BS2 := Lib.hid (BS1.out.push (.cells #[.int .i64 la, .int .i64 tw, .int .i64 pd] 3))
      have g0 := BS2.out.at 0 _ rfl
      have g1 := BS2.out.at 1 _ rfl
      have g2 := BS2.out.at 2 _ rfl
      have g3 := BS2.out.at 3 _ rfl
      have g4 := BS2.out.at 4 _ rfl
      have g5 := BS2.out.at 5 _ rfl
      have g6 := BS2.out.at 6 _ rfl
      have g7 := BS2.out.at 7 _ rfl
      have g8 := BS2.out.at 8 _ rfl
      have g9 := BS2.out.at 9 _ rfl
      have g10 := BS2.out.at 10 _ rfl
      have g11' := BS2.out.at 11 _ rfl
      have g12' := BS2.out.at 12 _ rfl
      have g13' := BS2.out.at 13 _ rfl
      have kq := Lib.hid fun (W : World) (hW : Bel w W) => validQueue_any le mo nw on ze fi hi dn sp tr A l l.length qc la tw pd W rfl hl ((HA.out.below hW).more hW.size) HK.out (decide (Jb.okQ nw hi (l.map TW.w))) rfl
      cases on
      rotate_left
      · have hv : v = decide (Jb.okQ nw hi (l.map TW.w)) := by rw [HV.out]; exact ok_que HX.out HCF.out HCN.out (Or.inl rfl)
        have HV2 := Lib.hid hv
        clear hv
        go_wp2_with fail
        refine (kq.out _ UE.out).mono ?_
        rintro e w2 ⟨rfl, hb2⟩
        have UF := Lib.hid (UE.out.later hb2)
        clear hb2
        go_wp2_with fail
        go_ret
        exact ⟨ret_b HV2.out.symm, UF.out⟩
      by_cases y1 : l.length = 0
      rotate_left
      · have hv : v = false := by rw [HV.out]; refine ok_rest (fun h => ?_); rcases h with h | ⟨y1, y2, y3⟩; exact absurd h (by simp); simp only [List.length_map] at y1 y2 y3; omega
        subst hv
        have y1' : (0 : Int) < (l.length : Int) := by omega
        go_wp2_with fail
        go_ret
        exact ⟨rfl, UE.out⟩
      have y1' : (l.length : Int) ≤ 0 := by omega
      by_cases y2 : hi = -1
      rotate_left
      · have hv : v = false := by rw [HV.out]; refine ok_rest (fun h => ?_); rcases h with h | ⟨y1, y2, y3⟩; exact absurd h (by simp); simp only [List.length_map] at y1 y2 y3; omega
        subst hv
        have y2' : (hi != -1) = true := by simpa using y2
        go_wp2_with fail
        go_ret
        exact ⟨rfl, UE.out⟩
      by_cases y3 : dn = -1
      rotate_left
      · have hv : v = false := by rw [HV.out]; refine ok_rest (fun h => ?_); rcases h with h | ⟨y1, y2, y3⟩; exact absurd h (by simp); simp only [List.length_map] at y1 y2 y3; omega
        subst hv
        have y3' : (dn != -1) = true := by simpa using y3
        have y2' : (hi != -1) = false := by simpa using y2
        go_wp2_with fail
        go_ret
        exact ⟨rfl, UE.out⟩
      have hrest : Jb.Jt.rest ⟨le, mo, nw, false, ze, fi, hi, dn, sp, tr, l.map TW.w, la, tw, pd⟩ := Or.inr ⟨by simpa using y1, y2, y3⟩
      have HRS := Lib.hid hrest
      have y3' : (dn != -1) = false := by simpa using y3
      have y2' : (hi != -1) = false := by simpa using y2
      clear y2 y3 hrest y1'
      obtain rfl : l = [] := List.eq_nil_of_length_eq_zero y1
      clear y1
      simp only [List.length_nil] at g10
      have kq := Lib.hid fun (W : World) (hW : Bel w W) => validQueue_any le mo nw false ze fi hi dn sp tr A [] 0 qc la tw pd W rfl (by omega) ((HA.out.below hW).more hW.size) HK.out (decide (Jb.okQ nw hi (([] : List TW).map TW.w))) rfl
      have hv : v = decide (Jb.okQ nw hi (([] : List TW).map TW.w)) := by rw [HV.out]; exact ok_que HX.out HCF.out HCN.out (HRS.out)
      have HV2 := Lib.hid hv
      clear hv
      go_wp2_with fail
      refine (kq.out _ UE.out).mono ?_
      rintro e w2 ⟨rfl, hb2⟩
      have UF := Lib.hid (UE.out.later hb2)
      clear hb2
      go_wp2_with fail
      go_ret
      exact ⟨ret_b HV2.out.symm, UF.out⟩
theorem valid_any (le mo nw : Int) (on : Bool) (ze fi hi dn sp tr : Int) (A : Option Addr) (l : List TW) (n qc : Nat) (la tw pd : Int) (w : World) (hn : l.length = n) (hl : n ≤ 100000) (hA : Wts w w.heap.size A l) (hK : ∀ a ∈ l, I64 a.w.m.sq) (v : Bool) (hv : v = Jb.valid ⟨le, mo, nw, on, ze, fi, hi, dn, sp, tr, l.map TW.w, la, tw, pd⟩) : Calls Try.prog 21 #[.agg #[.int .i64 le, .int .i64 mo, .int .i64 nw, .bool on, .int .i64 ze, .int .i64 fi, .int .i64 hi, .int .i64 dn, .int .i64 sp, .int .i64 tr, .slice A n qc, .int .i64 la, .int .i64 tw, .int .i64 pd]] w fun e w' => e = .returned (.bool v) ∧ Below w.heap.size w w' := by
  by_cases hx : Jb.Jt.nums ⟨le, mo, nw, on, ze, fi, hi, dn, sp, tr, l.map TW.w, la, tw, pd⟩
  · exact valid_more le mo nw on ze fi hi dn sp tr A l n qc la tw pd w hn hl hA hK hx v hv
  · rw [hv]; exact valid_nums le mo nw on ze fi hi dn sp tr A l n qc la tw pd w hn hx
end Go.Proofs.Ytnaafjdnmbajjaa
/- Layer 30: check. -/
namespace Go.Proofs.Ytnaafjdnmbajjaa
open Go.RowKit
set_option linter.unusedVariables false
set_option linter.unusedSimpArgs false
attribute [local go_sem ↓] run_min_plain run_max_plain
attribute [local go_sem] setCell_drewN alloc_drewN
theorem chk_bad {s : Jb.Jt} {now : Int} {fm : Bool} (h : Jb.valid s = false ∨ 281474976710656 < now ∨ fm = false) : Jb.chk s now fm = 2 := by
  unfold Jb.chk
  rw [if_pos]
  rcases h with h | h | h
  · left; unfold Jb.valid at h; simpa using h
  · exact Or.inr (Or.inl h)
  · exact Or.inr (Or.inr h)
theorem chk_good {s : Jb.Jt} {now : Int} {fm : Bool} (h : Jb.valid s = true) (h2 : now ≤ 281474976710656) (h3 : fm = true) : Jb.chk s now fm = if now < s.now then 9 else 0 := by
  unfold Jb.chk
  rw [if_neg]
  rintro (h4 | h4 | h4)
  · unfold Jb.valid at h; exact h4 (by simpa using h)
  · omega
  · rw [h3] at h4; cases h4
set_option maxRecDepth 100000 in
set_option maxHeartbeats 12800000 in
theorem check_any (le mo nw : Int) (on : Bool) (ze fi hi dn sp tr : Int) (A : Option Addr) (l : List TW) (n qc : Nat) (la tw pd : Int) (now : Int) (sq ti : Int) (mk : Bool) (ty : Int) (MA : Option Addr) (mn mc : Nat) (w : World) (hn : l.length = n) (hl : n ≤ 100000) (hA : Wts w w.heap.size A l) (hK : ∀ a ∈ l, I64 a.w.m.sq) (fm : Bool) (hfm : fm = decide ((0 ≤ sq ∧ sq ≤ 281474976710656) ∧ (-281474976710656 ≤ ti ∧ ti ≤ 281474976710656) ∧ mn ≤ 1500)) (r : Int) (hr : r = Jb.chk ⟨le, mo, nw, on, ze, fi, hi, dn, sp, tr, l.map TW.w, la, tw, pd⟩ now fm) : Calls Try.prog 28 #[.agg #[.int .i64 le, .int .i64 mo, .int .i64 nw, .bool on, .int .i64 ze, .int .i64 fi, .int .i64 hi, .int .i64 dn, .int .i64 sp, .int .i64 tr, .slice A n qc, .int .i64 la, .int .i64 tw, .int .i64 pd], .int .i64 now, .agg #[.int .i64 sq, .int .i64 ti, .bool mk, .int .u8 ty, .slice MA mn mc]] w fun e w' => e = .returned (.int .u8 r) ∧ Below w.heap.size w w' := by
  subst hn
  have HR := Lib.hid hr
  have k2 := Lib.hid fun W => formed_any sq ti mk ty MA mn mc W fm hfm
  clear hr hfm
  obtain ⟨vv, hvv⟩ : ∃ vv, vv = Jb.valid ⟨le, mo, nw, on, ze, fi, hi, dn, sp, tr, l.map TW.w, la, tw, pd⟩ := ⟨_, rfl⟩
  have HVV := Lib.hid hvv
  have k1 := Lib.hid fun (W : World) (hW : Bel w W) => valid_any le mo nw on ze fi hi dn sp tr A l l.length qc la tw pd W rfl hl ((hA.below hW).more hW.size) hK vv hvv
  have U0 := Lib.hid (((Bel.refl w).push (.cells #[.int .i64 le, .int .i64 mo, .int .i64 nw, .bool on, .int .i64 ze, .int .i64 fi, .int .i64 hi, .int .i64 dn, .int .i64 sp, .int .i64 tr, .slice A l.length qc, .int .i64 la, .int .i64 tw, .int .i64 pd] 26)).push (.cells #[.int .i64 sq, .int .i64 ti, .bool mk, .int .u8 ty, .slice MA mn mc] 29))
  have BS := Lib.hid ((Blk.new w 26 #[.int .i64 le, .int .i64 mo, .int .i64 nw, .bool on, .int .i64 ze, .int .i64 fi, .int .i64 hi, .int .i64 dn, .int .i64 sp, .int .i64 tr, .slice A l.length qc, .int .i64 la, .int .i64 tw, .int .i64 pd]).push (.cells #[.int .i64 sq, .int .i64 ti, .bool mk, .int .u8 ty, .slice MA mn mc] 29))
  have BM := Lib.hid (Blk.new1 w (.cells #[.int .i64 le, .int .i64 mo, .int .i64 nw, .bool on, .int .i64 ze, .int .i64 fi, .int .i64 hi, .int .i64 dn, .int .i64 sp, .int .i64 tr, .slice A l.length qc, .int .i64 la, .int .i64 tw, .int .i64 pd] 26) 29 #[.int .i64 sq, .int .i64 ti, .bool mk, .int .u8 ty, .slice MA mn mc])
  clear hA hK hvv
  cases vv
  · obtain rfl : r = 2 := by rw [HR.out]; exact chk_bad (Or.inl HVV.out.symm)
    go_enter Try.func28, Try.ntmps28
    go_wp2_with fail
    refine (k1.out _ U0.out).mono ?_
    rintro e w1 ⟨rfl, hb1⟩
    have U1 := Lib.hid (U0.out.later hb1)
    have BS1 := Lib.hid (BS.out.later hb1)
    have BM1 := Lib.hid (BM.out.later hb1)
    have g1 := BS1.out.at 2 _ rfl
    have m0 := BM1.out.at 0 _ rfl
    have m1 := BM1.out.at 1 _ rfl
    have m2 := BM1.out.at 2 _ rfl
    have m3 := BM1.out.at 3 _ rfl
    have m4 := BM1.out.at 4 _ rfl
    clear hb1
    go_wp2_with fail
    go_ret
    exact ⟨by first | rfl | simp, U1.out⟩
  by_cases hnow : 281474976710656 < now
  · obtain rfl : r = 2 := by rw [HR.out]; exact chk_bad (Or.inr (Or.inl hnow))
    go_enter Try.func28, Try.ntmps28
    go_wp2_with fail
    refine (k1.out _ U0.out).mono ?_
    rintro e w1 ⟨rfl, hb1⟩
    have U1 := Lib.hid (U0.out.later hb1)
    have BS1 := Lib.hid (BS.out.later hb1)
    have BM1 := Lib.hid (BM.out.later hb1)
    have g1 := BS1.out.at 2 _ rfl
    have m0 := BM1.out.at 0 _ rfl
    have m1 := BM1.out.at 1 _ rfl
    have m2 := BM1.out.at 2 _ rfl
    have m3 := BM1.out.at 3 _ rfl
    have m4 := BM1.out.at 4 _ rfl
    clear hb1
    go_wp2_with fail
    go_ret
    exact ⟨by first | rfl | simp, U1.out⟩
  have hnow' : now ≤ 281474976710656 := by omega
  cases fm
  · obtain rfl : r = 2 := by rw [HR.out]; exact chk_bad (Or.inr (Or.inr rfl))
    go_enter Try.func28, Try.ntmps28
    go_wp2_with fail
    refine (k1.out _ U0.out).mono ?_
    rintro e w1 ⟨rfl, hb1⟩
    have U1 := Lib.hid (U0.out.later hb1)
    have BS1 := Lib.hid (BS.out.later hb1)
    have BM1 := Lib.hid (BM.out.later hb1)
    have g1 := BS1.out.at 2 _ rfl
    have m0 := BM1.out.at 0 _ rfl
    have m1 := BM1.out.at 1 _ rfl
    have m2 := BM1.out.at 2 _ rfl
    have m3 := BM1.out.at 3 _ rfl
    have m4 := BM1.out.at 4 _ rfl
    clear hb1
    go_wp2_with fail
    refine (k2.out _).mono ?_
    rintro e w2 ⟨rfl, hb2⟩
    have U2 := Lib.hid (U1.out.later hb2)
    have q1 := (BS1.out.later hb2).at 2 _ rfl
    clear hb2
    go_wp2_with fail
    go_ret
    exact ⟨by first | rfl | simp, U2.out⟩
  have hrr : r = if now < nw then 9 else 0 := by rw [HR.out]; exact chk_good HVV.out.symm hnow' rfl
  by_cases hlt : now < nw
  · rw [if_pos hlt] at hrr
    subst hrr
    go_enter Try.func28, Try.ntmps28
    go_wp2_with fail
    refine (k1.out _ U0.out).mono ?_
    rintro e w1 ⟨rfl, hb1⟩
    have U1 := Lib.hid (U0.out.later hb1)
    have BS1 := Lib.hid (BS.out.later hb1)
    have BM1 := Lib.hid (BM.out.later hb1)
    have g1 := BS1.out.at 2 _ rfl
    have m0 := BM1.out.at 0 _ rfl
    have m1 := BM1.out.at 1 _ rfl
    have m2 := BM1.out.at 2 _ rfl
    have m3 := BM1.out.at 3 _ rfl
    have m4 := BM1.out.at 4 _ rfl
    clear hb1
    go_wp2_with fail
    refine (k2.out _).mono ?_
    rintro e w2 ⟨rfl, hb2⟩
    have U2 := Lib.hid (U1.out.later hb2)
    have q1 := (BS1.out.later hb2).at 2 _ rfl
    clear hb2
    go_wp2_with fail
    go_ret
    exact ⟨by first | rfl | simp, U2.out⟩
  · rw [if_neg hlt] at hrr
    subst hrr
    have hlt' : nw ≤ now := by omega
    go_enter Try.func28, Try.ntmps28
    go_wp2_with fail
    refine (k1.out _ U0.out).mono ?_
    rintro e w1 ⟨rfl, hb1⟩
    have U1 := Lib.hid (U0.out.later hb1)
    have BS1 := Lib.hid (BS.out.later hb1)
    have BM1 := Lib.hid (BM.out.later hb1)
    have g1 := BS1.out.at 2 _ rfl
    have m0 := BM1.out.at 0 _ rfl
    have m1 := BM1.out.at 1 _ rfl
    have m2 := BM1.out.at 2 _ rfl
    have m3 := BM1.out.at 3 _ rfl
    have m4 := BM1.out.at 4 _ rfl
    clear hb1
    go_wp2_with fail
    refine (k2.out _).mono ?_
    rintro e w2 ⟨rfl, hb2⟩
    have U2 := Lib.hid (U1.out.later hb2)
    have q1 := (BS1.out.later hb2).at 2 _ rfl
    clear hb2
    go_wp2_with fail
    go_ret
    exact ⟨by first | rfl | simp, U2.out⟩
end Go.Proofs.Ytnaafjdnmbajjaa
/- Layer 30: run, whatever the queue; Run. -/
namespace Go.Proofs.Ytnaafjdnmbajjaa
open Go.RowKit
set_option linter.unusedVariables false
set_option linter.unusedSimpArgs false
attribute [local go_sem ↓] run_min_plain run_max_plain
attribute [local go_sem] setCell_drewN alloc_drewN
theorem due_len (now : Int) (q : List Jb.Wt) : (Jb.due now q).length ≤ q.length := (Jb.due_sub now q).length_le
theorem run_any (le mo nw : Int) (on : Bool) (ze fi hi dn sp tr : Int) (A : Option Addr) (l : List TW) (n qc : Nat) (la tw pd : Int) (now : Int) (w : World) (hn : l.length = n) (hl : n ≤ 200) (hcap : n ≤ qc) (hcm : qc ≤ maxLen) (B : Nat) (hB : B ≤ w.heap.size) (hA : Wts w B A l) (hp : ∀ a ∈ l, a.w.m.pl.length ≤ 1000000) (hpd : -9223372036854775808 ≤ pd ∧ pd ≤ 9223372036854775000) : Calls Try.prog 29 #[.agg #[.int .i64 le, .int .i64 mo, .int .i64 nw, .bool on, .int .i64 ze, .int .i64 fi, .int .i64 hi, .int .i64 dn, .int .i64 sp, .int .i64 tr, .slice A n qc, .int .i64 la, .int .i64 tw, .int .i64 pd], .int .i64 now] w (RunR le mo on ze fi hi dn sp tr (l.map TW.w) la tw pd now w) := by
  replace hA := hA.more hB
  have hdl := due_len now (l.map TW.w)
  rw [List.length_map, hn] at hdl
  by_cases hd : (Jb.due now (l.map TW.w)).length < n
  · exact run_some le mo nw on ze fi hi dn sp tr A l n qc la tw pd now w hn hl hcap hcm hA hp hpd _ rfl hd
  · rcases A with _ | ⟨b, off, s⟩
    · have : l = [] := by
        rcases hA.form with e | ⟨b, off, e⟩
        · exact e
        · cases e
      subst this
      subst hn
      exact run_nil le mo nw on ze fi hi dn sp tr qc la tw pd now w hpd
    · rcases Nat.eq_zero_or_pos l.length with h0 | h0
      · have : l = [] := List.eq_nil_of_length_eq_zero h0
        subst this
        subst hn
        exact run_nowhere le mo nw on ze fi hi dn sp tr _ qc la tw pd now w hcm hpd
      · obtain ⟨b', off', e, _⟩ := hA.1 h0
        exact run_full le mo nw on ze fi hi dn sp tr _ l n qc la tw pd now w hn hl hcap hcm hA hp hpd (by omega) b' off' e
end Go.Proofs.Ytnaafjdnmbajjaa

/- Layer 30: Valid of the reference, behind its queue. -/
import Derived.Test.YtnaafjdnmbajjaaJtRQ
import Derived.Test.YtnaafjdnmbajjaaJtSameQ
namespace Go.Proofs.Ytnaafjdnmbajjaa
open Go.RowKit
set_option linter.unusedVariables false
set_option linter.unusedSimpArgs false
attribute [local go_sem ↓] run_min_plain run_max_plain
attribute [local go_sem] setCell_drewN alloc_drewN
set_option maxRecDepth 100000 in
set_option maxHeartbeats 12800000 in
theorem rvalid_any (le mo nw : Int) (on : Bool) (ze fi hi dn sp tr : Int) (A : Option Addr) (l : List TW) (n qc : Nat) (la tw pd : Int) (w : World) (hn : l.length = n) (hl : n ≤ 100000) (hA : Wts w w.heap.size A l) (hP : ∀ a ∈ l, a.w.m.pl.length ≤ 1000000000) (v : Bool) (hv : v = Jb.valid ⟨le, mo, nw, on, ze, fi, hi, dn, sp, tr, l.map TW.w, la, tw, pd⟩) : Calls Try.prog 19 #[.agg #[.int .i64 le, .int .i64 mo, .int .i64 nw, .bool on, .int .i64 ze, .int .i64 fi, .int .i64 hi, .int .i64 dn, .int .i64 sp, .int .i64 tr, .slice A n qc, .int .i64 la, .int .i64 tw, .int .i64 pd]] w fun e w' => e = .returned (.bool v) ∧ Below w.heap.size w w' := by
  subst hn
  have HV := Lib.hid hv
  clear hv
  obtain ⟨cv, hcv⟩ : ∃ cv, cv = decide (1 ≤ le ∧ le ≤ mo ∧ mo ≤ 1000) := ⟨_, rfl⟩
  have k0 := Lib.hid fun W => rconfig_any le mo W cv hcv
  have HC : Hid (cv = decide (Jb.cfg le mo)) := Lib.hid hcv
  clear hcv
  obtain ⟨b0, hb0⟩ : ∃ b, b = decide ((0 : Int) ≤ nw ∧ nw ≤ 281474976710656) := ⟨_, rfl⟩
  have k1 := Lib.hid fun W => within_any nw (0) 281474976710656 W b0 hb0
  have HB0 := Lib.hid hb0
  clear hb0
  obtain ⟨b1, hb1⟩ : ∃ b, b = decide ((-1125899906842624 : Int) ≤ ze ∧ ze ≤ 1125899906842624) := ⟨_, rfl⟩
  have k2 := Lib.hid fun W => within_any ze (-1125899906842624) 1125899906842624 W b1 hb1
  have HB1 := Lib.hid hb1
  clear hb1
  obtain ⟨b2, hb2⟩ : ∃ b, b = decide ((-1125899906842624 : Int) ≤ tr ∧ tr ≤ 1125899906842624) := ⟨_, rfl⟩
  have k3 := Lib.hid fun W => within_any tr (-1125899906842624) 1125899906842624 W b2 hb2
  have HB2 := Lib.hid hb2
  clear hb2
  obtain ⟨b3, hb3⟩ : ∃ b, b = decide ((-281474976710656 : Int) ≤ fi ∧ fi ≤ 281474976710656) := ⟨_, rfl⟩
  have k4 := Lib.hid fun W => within_any fi (-281474976710656) 281474976710656 W b3 hb3
  have HB3 := Lib.hid hb3
  clear hb3
  obtain ⟨b4, hb4⟩ : ∃ b, b = decide ((-1 : Int) ≤ hi ∧ hi ≤ 281474976710656) := ⟨_, rfl⟩
  have k5 := Lib.hid fun W => within_any hi (-1) 281474976710656 W b4 hb4
  have HB4 := Lib.hid hb4
  clear hb4
  obtain ⟨b5, hb5⟩ : ∃ b, b = decide ((-1 : Int) ≤ dn ∧ dn ≤ 281474976710656) := ⟨_, rfl⟩
  have k6 := Lib.hid fun W => within_any dn (-1) 281474976710656 W b5 hb5
  have HB5 := Lib.hid hb5
  clear hb5
  obtain ⟨b6, hb6⟩ : ∃ b, b = decide ((0 : Int) ≤ sp ∧ sp ≤ 72057594037927936) := ⟨_, rfl⟩
  have k7 := Lib.hid fun W => within_any sp (0) 72057594037927936 W b6 hb6
  have HB6 := Lib.hid hb6
  clear hb6
  obtain ⟨b7, hb7⟩ : ∃ b, b = decide ((0 : Int) ≤ la ∧ la ≤ 281474976710656) := ⟨_, rfl⟩
  have k8 := Lib.hid fun W => within_any la (0) 281474976710656 W b7 hb7
  have HB7 := Lib.hid hb7
  clear hb7
  obtain ⟨b8, hb8⟩ : ∃ b, b = decide ((0 : Int) ≤ tw ∧ tw ≤ 281474976710656) := ⟨_, rfl⟩
  have k9 := Lib.hid fun W => within_any tw (0) 281474976710656 W b8 hb8
  have HB8 := Lib.hid hb8
  clear hb8
  obtain ⟨b9, hb9⟩ : ∃ b, b = decide ((0 : Int) ≤ pd ∧ pd ≤ 281474976710656) := ⟨_, rfl⟩
  have k10 := Lib.hid fun W => within_any pd (0) 281474976710656 W b9 hb9
  have HB9 := Lib.hid hb9
  clear hb9
  have kq := Lib.hid fun (W : World) (hW : Bel w W) => rqueue_any le mo nw on ze fi hi dn sp tr A l l.length qc la tw pd W rfl hl ((hA.below hW).more hW.size) hP (decide (Jb.okQ nw hi (l.map TW.w))) rfl
  have U0 := Lib.hid ((Bel.refl w).push (.cells #[.int .i64 le, .int .i64 mo, .int .i64 nw, .bool on, .int .i64 ze, .int .i64 fi, .int .i64 hi, .int .i64 dn, .int .i64 sp, .int .i64 tr, .slice A l.length qc, .int .i64 la, .int .i64 tw, .int .i64 pd] 26))
  have BS := Lib.hid (Blk.new w 26 #[.int .i64 le, .int .i64 mo, .int .i64 nw, .bool on, .int .i64 ze, .int .i64 fi, .int .i64 hi, .int .i64 dn, .int .i64 sp, .int .i64 tr, .slice A l.length qc, .int .i64 la, .int .i64 tw, .int .i64 pd])
  clear hA hP
  go_enter Try.func19, Try.ntmps19
  go_wp2_with fail
  refine (k0.out _).mono ?_
  rintro e w1 ⟨rfl, hb1⟩
  have U1 := Lib.hid (U0.out.later hb1)
  have BS1 := Lib.hid (BS.out.later hb1)
  clear hb1 U0 BS
  have s0 := (BS1.out).at 0 _ rfl
  have s1 := (BS1.out).at 1 _ rfl
  have s2 := (BS1.out).at 2 _ rfl
  have s3 := (BS1.out).at 3 _ rfl
  have s4 := (BS1.out).at 4 _ rfl
  have s5 := (BS1.out).at 5 _ rfl
  have s6 := (BS1.out).at 6 _ rfl
  have s7 := (BS1.out).at 7 _ rfl
  have s8 := (BS1.out).at 8 _ rfl
  have s9 := (BS1.out).at 9 _ rfl
  have s10 := (BS1.out).at 10 _ rfl
  have s11 := (BS1.out).at 11 _ rfl
  have s12 := (BS1.out).at 12 _ rfl
  have s13 := (BS1.out).at 13 _ rfl
  cases cv
  · have hv : v = false := by rw [HV.out]; exact ok_cfg (fun h => by have h2 := HC.out; rw [eq_comm, decide_eq_false_iff_not] at h2; exact h2 h)
    subst hv
    go_wp2_with fail
    go_ret
    exact ⟨by first | rfl | simp, U1.out⟩
  go_wp2_with fail
  refine (k1.out _).mono ?_
  rintro e w2 ⟨rfl, rfl⟩
  cases b0
  · have hv : v = false := by rw [HV.out]; exact ok_nums (fun h => by obtain ⟨h0, h1, h2, h3, h4, h5, h6⟩ := h; have h9 := HB0.out; rw [eq_comm, decide_eq_false_iff_not] at h9; exact h9 h0)
    subst hv
    go_wp2_with fail
    go_ret
    exact ⟨by first | rfl | simp, U1.out⟩
  go_wp2_with fail
  refine (k2.out _).mono ?_
  rintro e w2 ⟨rfl, rfl⟩
  cases b1
  · have hv : v = false := by rw [HV.out]; exact ok_nums (fun h => by obtain ⟨h0, h1, h2, h3, h4, h5, h6⟩ := h; have h9 := HB1.out; rw [eq_comm, decide_eq_false_iff_not] at h9; exact h9 h1)
    subst hv
    go_wp2_with fail
    go_ret
    exact ⟨by first | rfl | simp, U1.out⟩
  go_wp2_with fail
  refine (k3.out _).mono ?_
  rintro e w2 ⟨rfl, rfl⟩
  cases b2
  · have hv : v = false := by rw [HV.out]; exact ok_nums (fun h => by obtain ⟨h0, h1, h2, h3, h4, h5, h6⟩ := h; have h9 := HB2.out; rw [eq_comm, decide_eq_false_iff_not] at h9; exact h9 h2)
    subst hv
    go_wp2_with fail
    go_ret
    exact ⟨by first | rfl | simp, U1.out⟩
  go_wp2_with fail
  refine (k4.out _).mono ?_
  rintro e w2 ⟨rfl, rfl⟩
  cases b3
  · have hv : v = false := by rw [HV.out]; exact ok_nums (fun h => by obtain ⟨h0, h1, h2, h3, h4, h5, h6⟩ := h; have h9 := HB3.out; rw [eq_comm, decide_eq_false_iff_not] at h9; exact h9 h3)
    subst hv
    go_wp2_with fail
    go_ret
    exact ⟨by first | rfl | simp, U1.out⟩
  go_wp2_with fail
  refine (k5.out _).mono ?_
  rintro e w2 ⟨rfl, rfl⟩
  cases b4
  · have hv : v = false := by rw [HV.out]; exact ok_nums (fun h => by obtain ⟨h0, h1, h2, h3, h4, h5, h6⟩ := h; have h9 := HB4.out; rw [eq_comm, decide_eq_false_iff_not] at h9; exact h9 h4)
    subst hv
    go_wp2_with fail
    go_ret
    exact ⟨by first | rfl | simp, U1.out⟩
  go_wp2_with fail
  refine (k6.out _).mono ?_
  rintro e w2 ⟨rfl, rfl⟩
  cases b5
  · have hv : v = false := by rw [HV.out]; exact ok_nums (fun h => by obtain ⟨h0, h1, h2, h3, h4, h5, h6⟩ := h; have h9 := HB5.out; rw [eq_comm, decide_eq_false_iff_not] at h9; exact h9 h5)
    subst hv
    go_wp2_with fail
    go_ret
    exact ⟨by first | rfl | simp, U1.out⟩
  go_wp2_with fail
  refine (k7.out _).mono ?_
  rintro e w2 ⟨rfl, rfl⟩
  cases b6
  · have hv : v = false := by rw [HV.out]; exact ok_nums (fun h => by obtain ⟨h0, h1, h2, h3, h4, h5, h6⟩ := h; have h9 := HB6.out; rw [eq_comm, decide_eq_false_iff_not] at h9; exact h9 h6)
    subst hv
    go_wp2_with fail
    go_ret
    exact ⟨by first | rfl | simp, U1.out⟩
  go_wp2_with fail
  refine (k8.out _).mono ?_
  rintro e w2 ⟨rfl, rfl⟩
  cases b7
  · have hv : v = false := by rw [HV.out]; exact ok_cnts (fun h => by obtain ⟨h7, h8, h6⟩ := h; have h9 := HB7.out; rw [eq_comm, decide_eq_false_iff_not] at h9; exact h9 h7)
    subst hv
    go_wp2_with fail
    go_ret
    exact ⟨by first | rfl | simp, U1.out⟩
  go_wp2_with fail
  refine (k9.out _).mono ?_
  rintro e w2 ⟨rfl, rfl⟩
  cases b8
  · have hv : v = false := by rw [HV.out]; exact ok_cnts (fun h => by obtain ⟨h7, h8, h6⟩ := h; have h9 := HB8.out; rw [eq_comm, decide_eq_false_iff_not] at h9; exact h9 h8)
    subst hv
    go_wp2_with fail
    go_ret
    exact ⟨by first | rfl | simp, U1.out⟩
  go_wp2_with fail
  refine (k10.out _).mono ?_
  rintro e w2 ⟨rfl, rfl⟩
  cases b9
  · have hv : v = false := by rw [HV.out]; exact ok_cnts (fun h => by obtain ⟨h7, h8, h6⟩ := h; have h9 := HB9.out; rw [eq_comm, decide_eq_false_iff_not] at h9; exact h9 h6)
    subst hv
    go_wp2_with fail
    go_ret
    exact ⟨by first | rfl | simp, U1.out⟩
  have HX : Hid (Jb.Jt.nums ⟨le, mo, nw, on, ze, fi, hi, dn, sp, tr, l.map TW.w, la, tw, pd⟩) := Lib.hid ⟨(by have h9 := HB0.out; rw [eq_comm, decide_eq_true_iff] at h9; exact h9), (by have h9 := HB1.out; rw [eq_comm, decide_eq_true_iff] at h9; exact h9), (by have h9 := HB2.out; rw [eq_comm, decide_eq_true_iff] at h9; exact h9), (by have h9 := HB3.out; rw [eq_comm, decide_eq_true_iff] at h9; exact h9), (by have h9 := HB4.out; rw [eq_comm, decide_eq_true_iff] at h9; exact h9), (by have h9 := HB5.out; rw [eq_comm, decide_eq_true_iff] at h9; exact h9), (by have h9 := HB6.out; rw [eq_comm, decide_eq_true_iff] at h9; exact h9)⟩
  have HCN : Hid (Jb.Jt.cnts ⟨le, mo, nw, on, ze, fi, hi, dn, sp, tr, l.map TW.w, la, tw, pd⟩) := Lib.hid ⟨(by have h9 := HB7.out; rw [eq_comm, decide_eq_true_iff] at h9; exact h9), (by have h9 := HB8.out; rw [eq_comm, decide_eq_true_iff] at h9; exact h9), (by have h9 := HB9.out; rw [eq_comm, decide_eq_true_iff] at h9; exact h9)⟩
  have HCF : Hid (Jb.cfg le mo) := Lib.hid (by have h2 := HC.out; rw [eq_comm, decide_eq_true_iff] at h2; exact h2)
  clear HC HB0 k1 HB1 k2 HB2 k3 HB3 k4 HB4 k5 HB5 k6 HB6 k7 HB7 k8 HB8 k9 HB9 k10 k0
  cases on
  rotate_left
  · have hv : v = decide (Jb.okQ nw hi (l.map TW.w)) := by rw [HV.out]; exact ok_que HX.out HCF.out HCN.out (Or.inl rfl)
    have HV2 := Lib.hid hv
    clear hv
    go_wp2_with fail
    refine (kq.out _ U1.out).mono ?_
    rintro e w2 ⟨rfl, hb2⟩
    have UF := Lib.hid (U1.out.later hb2)
    clear hb2
    go_wp2_with fail
    go_ret
    exact ⟨ret_b HV2.out.symm, UF.out⟩
  by_cases y1 : l.length = 0
  rotate_left
  · have hv : v = false := by rw [HV.out]; refine ok_rest (fun h => ?_); rcases h with h | ⟨y1, y2, y3⟩; exact absurd h (by simp); simp only [List.length_map] at y1 y2 y3; omega
    subst hv
    have y1n : ¬l = [] := by intro h; rw [h] at y1; exact y1 rfl
    have y1' : ((l.length : Int) != 0) = true := by simpa using y1
    go_wp2_with fail
    go_ret
    exact ⟨by first | rfl | simp, U1.out⟩
  obtain rfl : l = [] := List.eq_nil_of_length_eq_zero y1
  simp only [List.length_nil] at s10
  clear y1
  by_cases y2 : hi = -1
  rotate_left
  · have hv : v = false := by rw [HV.out]; refine ok_rest (fun h => ?_); rcases h with h | ⟨y1, y2, y3⟩; exact absurd h (by simp); simp only [List.length_map] at y1 y2 y3; omega
    subst hv
    have y2' : (hi != -1) = true := by simpa using y2
    go_wp2_with fail
    go_ret
    exact ⟨by first | rfl | simp, U1.out⟩
  by_cases y3 : dn = -1
  rotate_left
  · have hv : v = false := by rw [HV.out]; refine ok_rest (fun h => ?_); rcases h with h | ⟨y1, y2, y3⟩; exact absurd h (by simp); simp only [List.length_map] at y1 y2 y3; omega
    subst hv
    have y3' : (dn != -1) = true := by simpa using y3
    have y2' : (hi != -1) = false := by simpa using y2
    go_wp2_with fail
    go_ret
    exact ⟨by first | rfl | simp, U1.out⟩
  have hrest : Jb.Jt.rest ⟨le, mo, nw, false, ze, fi, hi, dn, sp, tr, [].map TW.w, la, tw, pd⟩ := Or.inr ⟨rfl, y2, y3⟩
  have HRS := Lib.hid hrest
  have y3' : (dn != -1) = false := by simpa using y3
  have y2' : (hi != -1) = false := by simpa using y2
  clear y2 y3 hrest
  have hv : v = decide (Jb.okQ nw hi (([] : List TW).map TW.w)) := by rw [HV.out]; exact ok_que HX.out HCF.out HCN.out (HRS.out)
  have HV2 := Lib.hid hv
  clear hv
  go_wp2_with fail
  refine (kq.out _ U1.out).mono ?_
  rintro e w2 ⟨rfl, hb2⟩
  have UF := Lib.hid (U1.out.later hb2)
  clear hb2
  go_wp2_with fail
  go_ret
  exact ⟨ret_b HV2.out.symm, UF.out⟩
end Go.Proofs.Ytnaafjdnmbajjaa
/- Layer 30: Check and PlayTime of the reference. -/
namespace Go.Proofs.Ytnaafjdnmbajjaa
open Go.RowKit
set_option linter.unusedVariables false
set_option linter.unusedSimpArgs false
attribute [local go_sem ↓] run_min_plain run_max_plain
attribute [local go_sem] setCell_drewN alloc_drewN
set_option maxRecDepth 100000 in
set_option maxHeartbeats 12800000 in
theorem rcheck_any (le mo nw : Int) (on : Bool) (ze fi hi dn sp tr : Int) (A : Option Addr) (l : List TW) (n qc : Nat) (la tw pd : Int) (now : Int) (fm : Bool) (w : World) (hn : l.length = n) (hl : n ≤ 100000) (hA : Wts w w.heap.size A l) (hP : ∀ a ∈ l, a.w.m.pl.length ≤ 1000000000) (r : Int) (hr : r = Jb.chk ⟨le, mo, nw, on, ze, fi, hi, dn, sp, tr, l.map TW.w, la, tw, pd⟩ now fm) : Calls Try.prog 38 #[.agg #[.int .i64 le, .int .i64 mo, .int .i64 nw, .bool on, .int .i64 ze, .int .i64 fi, .int .i64 hi, .int .i64 dn, .int .i64 sp, .int .i64 tr, .slice A n qc, .int .i64 la, .int .i64 tw, .int .i64 pd], .int .i64 now, .bool fm] w fun e w' => e = .returned (.int .u8 r) ∧ Below w.heap.size w w' := by
  subst hn
  have HR := Lib.hid hr
  clear hr
  obtain ⟨vv, hvv⟩ : ∃ vv, vv = Jb.valid ⟨le, mo, nw, on, ze, fi, hi, dn, sp, tr, l.map TW.w, la, tw, pd⟩ := ⟨_, rfl⟩
  have HVV := Lib.hid hvv
  have k1 := Lib.hid fun (W : World) (hW : Bel w W) => rvalid_any le mo nw on ze fi hi dn sp tr A l l.length qc la tw pd W rfl hl ((hA.below hW).more hW.size) hP vv hvv
  have U0 := Lib.hid ((Bel.refl w).push (.cells #[.int .i64 le, .int .i64 mo, .int .i64 nw, .bool on, .int .i64 ze, .int .i64 fi, .int .i64 hi, .int .i64 dn, .int .i64 sp, .int .i64 tr, .slice A l.length qc, .int .i64 la, .int .i64 tw, .int .i64 pd] 26))
  have BS := Lib.hid (Blk.new w 26 #[.int .i64 le, .int .i64 mo, .int .i64 nw, .bool on, .int .i64 ze, .int .i64 fi, .int .i64 hi, .int .i64 dn, .int .i64 sp, .int .i64 tr, .slice A l.length qc, .int .i64 la, .int .i64 tw, .int .i64 pd])
  clear hA hP hvv
  cases vv
  · obtain rfl : r = 2 := by rw [HR.out]; exact chk_bad (Or.inl HVV.out.symm)
    go_enter Try.func38, Try.ntmps38
    go_wp2_with fail
    refine (k1.out _ U0.out).mono ?_
    rintro e w1 ⟨rfl, hb1⟩
    have U1 := Lib.hid (U0.out.later hb1)
    have BS1 := Lib.hid (BS.out.later hb1)
    have g1 := BS1.out.at 2 _ rfl
    clear hb1
    go_wp2_with fail
    go_ret
    exact ⟨by first | rfl | simp, U1.out⟩
  by_cases hnow : 281474976710656 < now
  · obtain rfl : r = 2 := by rw [HR.out]; exact chk_bad (Or.inr (Or.inl hnow))
    go_enter Try.func38, Try.ntmps38
    go_wp2_with fail
    refine (k1.out _ U0.out).mono ?_
    rintro e w1 ⟨rfl, hb1⟩
    have U1 := Lib.hid (U0.out.later hb1)
    have BS1 := Lib.hid (BS.out.later hb1)
    have g1 := BS1.out.at 2 _ rfl
    clear hb1
    go_wp2_with fail
    go_ret
    exact ⟨by first | rfl | simp, U1.out⟩
  have hnow' : now ≤ 281474976710656 := by omega
  cases fm
  · obtain rfl : r = 2 := by rw [HR.out]; exact chk_bad (Or.inr (Or.inr rfl))
    go_enter Try.func38, Try.ntmps38
    go_wp2_with fail
    refine (k1.out _ U0.out).mono ?_
    rintro e w1 ⟨rfl, hb1⟩
    have U1 := Lib.hid (U0.out.later hb1)
    have BS1 := Lib.hid (BS.out.later hb1)
    have g1 := BS1.out.at 2 _ rfl
    clear hb1
    go_wp2_with fail
    go_ret
    exact ⟨by first | rfl | simp, U1.out⟩
  have hrr : r = if now < nw then 9 else 0 := by rw [HR.out]; exact chk_good HVV.out.symm hnow' rfl
  by_cases hlt : now < nw
  · rw [if_pos hlt] at hrr
    subst hrr
    go_enter Try.func38, Try.ntmps38
    go_wp2_with fail
    refine (k1.out _ U0.out).mono ?_
    rintro e w1 ⟨rfl, hb1⟩
    have U1 := Lib.hid (U0.out.later hb1)
    have BS1 := Lib.hid (BS.out.later hb1)
    have g1 := BS1.out.at 2 _ rfl
    clear hb1
    go_wp2_with fail
    go_ret
    exact ⟨by first | rfl | simp, U1.out⟩
  · rw [if_neg hlt] at hrr
    subst hrr
    have hlt' : nw ≤ now := by omega
    go_enter Try.func38, Try.ntmps38
    go_wp2_with fail
    refine (k1.out _ U0.out).mono ?_
    rintro e w1 ⟨rfl, hb1⟩
    have U1 := Lib.hid (U0.out.later hb1)
    have BS1 := Lib.hid (BS.out.later hb1)
    have g1 := BS1.out.at 2 _ rfl
    clear hb1
    go_wp2_with fail
    go_ret
    exact ⟨by first | rfl | simp, U1.out⟩
set_option maxRecDepth 100000 in
set_option maxHeartbeats 12800000 in
theorem rplayx_let (le mo nw : Int) (on : Bool) (ze fi hi dn sp tr : Int) (A : Option Addr) (l : List TW) (n qc : Nat) (la tw pd : Int) (t : Int) (w : World) (hn : l.length = n) (hl : n ≤ 100000) (hA : Wts w w.heap.size A l) (hP : ∀ a ∈ l, a.w.m.pl.length ≤ 1000000000) : Calls Try.prog 23 #[.agg #[.int .i64 le, .int .i64 mo, .int .i64 nw, .bool on, .int .i64 ze, .int .i64 fi, .int .i64 hi, .int .i64 dn, .int .i64 sp, .int .i64 tr, .slice A n qc, .int .i64 la, .int .i64 tw, .int .i64 pd], .int .i64 t] w fun e w' => e = .returned (.int .i64 (Jb.play ⟨le, mo, nw, on, ze, fi, hi, dn, sp, tr, l.map TW.w, la, tw, pd⟩ t)) ∧ Below w.heap.size w w' := by
  subst hn
  obtain ⟨r, hr⟩ : ∃ r, r = Jb.play ⟨le, mo, nw, on, ze, fi, hi, dn, sp, tr, l.map TW.w, la, tw, pd⟩ t := ⟨_, rfl⟩
  rw [← hr]
  have HR := Lib.hid hr
  obtain ⟨vv, hvv⟩ : ∃ vv, vv = Jb.valid ⟨le, mo, nw, on, ze, fi, hi, dn, sp, tr, l.map TW.w, la, tw, pd⟩ := ⟨_, rfl⟩
  have HVV := Lib.hid hvv
  obtain ⟨tb, htb⟩ : ∃ b, b = decide ((-281474976710656 : Int) ≤ t ∧ t ≤ 281474976710656) := ⟨_, rfl⟩
  have k0 := Lib.hid fun W => within_any t (-281474976710656) 281474976710656 W tb htb
  have HTB := Lib.hid htb
  have k1 := Lib.hid fun (W : World) (hW : Bel w W) => rvalid_any le mo nw on ze fi hi dn sp tr A l l.length qc la tw pd W rfl hl ((hA.below hW).more hW.size) hP vv hvv
  have U0 := Lib.hid ((Bel.refl w).push (.cells #[.int .i64 le, .int .i64 mo, .int .i64 nw, .bool on, .int .i64 ze, .int .i64 fi, .int .i64 hi, .int .i64 dn, .int .i64 sp, .int .i64 tr, .slice A l.length qc, .int .i64 la, .int .i64 tw, .int .i64 pd] 26))
  have BS := Lib.hid (Blk.new w 26 #[.int .i64 le, .int .i64 mo, .int .i64 nw, .bool on, .int .i64 ze, .int .i64 fi, .int .i64 hi, .int .i64 dn, .int .i64 sp, .int .i64 tr, .slice A l.length qc, .int .i64 la, .int .i64 tw, .int .i64 pd])
  clear hr hvv hA hP htb
  cases tb
  · obtain rfl : r = 0 := by
      rw [HR.out]
      have h9 := HTB.out
      rw [eq_comm, decide_eq_false_iff_not] at h9
      refine play_no (.inr ?_)
      omega
    go_enter Try.func23, Try.ntmps23
    go_wp2_with fail
    refine (k0.out _).mono ?_
    rintro e w0 ⟨rfl, rfl⟩
    go_wp2_with fail
    go_ret
    exact ⟨by first | rfl | simp, U0.out⟩
  have htb := HTB.out
  rw [eq_comm, decide_eq_true_iff] at htb
  obtain ⟨t0, t1⟩ := htb
  cases vv
  · obtain rfl : r = 0 := by rw [HR.out]; exact play_no (.inl HVV.out.symm)
    go_enter Try.func23, Try.ntmps23
    go_wp2_with fail
    refine (k0.out _).mono ?_
    rintro e w0 ⟨rfl, rfl⟩
    go_wp2_with fail
    refine (k1.out _ U0.out).mono ?_
    rintro e w1 ⟨rfl, hb1⟩
    have U1 := Lib.hid (U0.out.later hb1)
    have BS1 := Lib.hid (BS.out.later hb1)
    clear hb1
    have s4 := BS1.out.at 4 _ rfl
    have s5 := BS1.out.at 5 _ rfl
    go_wp2_with fail
    go_ret
    exact ⟨by first | rfl | simp, U1.out⟩
  have hok : Jb.Jt.ok ⟨le, mo, nw, on, ze, fi, hi, dn, sp, tr, l.map TW.w, la, tw, pd⟩ := by have h9 := HVV.out.symm; unfold Jb.valid at h9; simpa using h9
  obtain ⟨_, ⟨z0, z1⟩, _, ⟨f0, f1⟩, _⟩ := hok.1
  simp only at z0 z1 f0 f1
  clear hok
  have HE : Hid (r = ze + (t - fi) / 8) := Lib.hid (by rw [HR.out]; exact play_ok HVV.out.symm t0 t1)
  obtain ⟨d, hd⟩ : ∃ d, d = t - fi := ⟨_, rfl⟩
  have e1 : t - fi = d := hd.symm
  have ew : IntKind.i64.wrap (t - fi) = d := by rw [i64_small _ (by omega) (by omega)]; exact e1
  have k3 := Lib.hid fun W => reighth_any d W (by omega) (by omega)
  obtain ⟨y, hy⟩ : ∃ y, y = d / 8 := ⟨_, rfl⟩
  have hyb : -140737488355328 ≤ y ∧ y ≤ 140737488355328 := by omega
  obtain ⟨y0, y1⟩ := hyb
  rw [← hy] at k3
  have ez : IntKind.i64.wrap (ze + y) = ze + y := i64_small _ (by omega) (by omega)
  have HY : Hid (r = ze + y) := Lib.hid (by rw [HE.out, e1, ← hy])
  clear hd hy HE
  go_enter Try.func23, Try.ntmps23
  go_wp2_with fail
  refine (k0.out _).mono ?_
  rintro e w0 ⟨rfl, rfl⟩
  go_wp2_with fail
  refine (k1.out _ U0.out).mono ?_
  rintro e w1 ⟨rfl, hb1⟩
  have U1 := Lib.hid (U0.out.later hb1)
  have BS1 := Lib.hid (BS.out.later hb1)
  clear hb1
  have s4 := BS1.out.at 4 _ rfl
  have s5 := BS1.out.at 5 _ rfl
  go_wp2_with fail
  go_quiet ((go_at_call 39; exact Calls.quiet_of_same ((k3.out _).mono fun _ _ h => ⟨h.1, h.2.symm⟩)))
  go_wp2_with fail
  go_ret
  exact ⟨ret_i HY.out.symm, U1.out.drewN _⟩
end Go.Proofs.Ytnaafjdnmbajjaa

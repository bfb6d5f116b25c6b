/- Layer 30: measure, while the buffer runs. -/
import Derived.Test.YtahbecinkciahaaGreatSs9S
import Derived.Test.YtahbecinkciahaaGreatJtValidS
import Derived.Deep.RegionHeld3
set_option linter.unusedVariables false
set_option linter.unusedSimpArgs false
set_option maxRecDepth 100000
set_option maxHeartbeats 12800000
namespace Go.Proofs.YtahbecinkciahaaGreat
attribute [local go_sem ↓] zac zad
attribute [local go_sem] zab zag
open Go.RowKit
theorem zhh (le mo nw : Int) (ze fi hi dn sp tr : Int) (A : Option Addr) (l : List TW) (n qc : Nat) (la tw pd : Int) (sq ti : Int) (mk : Bool) (ty : Int) (MA : Option Addr) (mn mc : Nat) (w : World) (hn : l.length = n) (hl : n ≤ 200) (hA : Wts w w.heap.size A l) (n0 : 0 ≤ nw) (n1 : nw ≤ 281474976710656) (t0 : -281474976710656 ≤ ti) (t1 : ti ≤ 281474976710656) (r0 : -1125899906842624 ≤ tr) (r1 : tr ≤ 1125899906842624) (s0 : 0 ≤ sp) (s1 : sp ≤ 72057594037927936) (c0 : 1 ≤ le) (c1 : le ≤ mo) (c2 : mo ≤ 1000) (hAt : ∀ a ∈ l, 0 ≤ a.w.at_ ∧ a.w.at_ ≤ 562949953421312) (pl : List Int) (hmk : mk = false) (hlt : nw - ti / 8 < tr) : Calls Tryz.prog 105 #[.agg #[.int .i64 le, .int .i64 mo, .int .i64 nw, .bool true, .int .i64 ze, .int .i64 fi, .int .i64 hi, .int .i64 dn, .int .i64 sp, .int .i64 tr, .slice A n qc, .int .i64 la, .int .i64 tw, .int .i64 pd], .agg #[.int .i64 sq, .int .i64 ti, .bool mk, .int .u8 ty, .slice MA mn mc]] w (MeasR ⟨le, mo, nw, true, ze, fi, hi, dn, sp, tr, l.map TW.w, la, tw, pd⟩ ⟨sq, ti, mk, ty, pl⟩ A n qc w) := by
 subst hn
 obtain ⟨y, hy⟩ : ∃ y, y = ti / 8 := ⟨_, rfl⟩
 have k1 := H9 fun W => zbe ti W (by omega) (by omega)
 rw [← hy] at k1
 have hyb : -35184372088832 ≤ y ∧ y ≤ 35184372088832 := by omega
 obtain ⟨y0, y1⟩ := hyb
 obtain ⟨T, hT⟩ : ∃ T, T = nw - y := ⟨_, rfl⟩
 have e1 : nw - y = T := hT.symm
 have ew : IntKind.i64.wrap (nw - y) = T := by rw [zam _ (by omega) (by omega)]; exact e1
 have HT := H9 hT
 have HY := H9 hy
 have T0 : -1000000000000000 ≤ T := by omega
 have T1 : T ≤ 1000000000000000 := by omega
 have HA := H9 hA
 have HAT := H9 hAt
 have hd : T < tr := by omega
 have sp0 : 0 ≤ (sp + (-(T - tr) - (sp + 8) / 16)) := by omega
 have sp1 : (sp + (-(T - tr) - (sp + 8) / 16)) ≤ 9000000000000000000 := by omega
 subst hmk
 clear hT hy hA hAt hlt
 go_enter Tryz.func105, Tryz.ntmps105
 go_wp2_with fail
 go_quiet ((go_at_call 150; exact Calls.quiet_of_same ((k1.out _).mono fun _ _ h => ⟨h.1, h.2.symm⟩)))
 go_wp2_with fail
 have hSP : sp + max (T - tr) (tr - T) - (sp + 8) / 16 = (sp + (-(T - tr) - (sp + 8) / 16)) := by omega
 have BF : Blk ((((w.alloc (.cells #[.int .i64 le, .int .i64 mo, .int .i64 nw, .bool true, .int .i64 ze, .int .i64 fi, .int .i64 (max hi sq), .int .i64 dn, .int .i64 (sp + (-(T - tr) - (sp + 8) / 16)), .int .i64 T, .slice A l.length qc, .int .i64 la, .int .i64 tw, .int .i64 pd] 40)).alloc (.cells #[.int .i64 sq, .int .i64 ti, .bool false, .int .u8 ty, .slice MA mn mc] 103)).alloc (.cells #[.int .i64 le, .int .i64 mo, .int .i64 nw, .bool true, .int .i64 ze, .int .i64 fi, .int .i64 (max hi sq), .int .i64 dn, .int .i64 (sp + (-(T - tr) - (sp + 8) / 16)), .int .i64 T, .slice A l.length qc, .int .i64 la, .int .i64 tw, .int .i64 pd] 40)).drewN nq) (w.heap.size + 1 + 1) 40 #[.int .i64 le, .int .i64 mo, .int .i64 nw, .bool true, .int .i64 ze, .int .i64 fi, .int .i64 (max hi sq), .int .i64 dn, .int .i64 (sp + (-(T - tr) - (sp + 8) / 16)), .int .i64 T, .slice A l.length qc, .int .i64 la, .int .i64 tw, .int .i64 pd] := by
  have h9 := Blk.new ((w.alloc (.cells #[.int .i64 le, .int .i64 mo, .int .i64 nw, .bool true, .int .i64 ze, .int .i64 fi, .int .i64 (max hi sq), .int .i64 dn, .int .i64 (sp + (-(T - tr) - (sp + 8) / 16)), .int .i64 T, .slice A l.length qc, .int .i64 la, .int .i64 tw, .int .i64 pd] 40)).alloc (.cells #[.int .i64 sq, .int .i64 ti, .bool false, .int .u8 ty, .slice MA mn mc] 103)) 40 #[.int .i64 le, .int .i64 mo, .int .i64 nw, .bool true, .int .i64 ze, .int .i64 fi, .int .i64 (max hi sq), .int .i64 dn, .int .i64 (sp + (-(T - tr) - (sp + 8) / 16)), .int .i64 T, .slice A l.length qc, .int .i64 la, .int .i64 tw, .int .i64 pd]
  rw [zal] at h9
  exact h9.drewN _
 have hM : Jb.meas ⟨le, mo, nw, true, ze, fi, hi, dn, sp, tr, l.map TW.w, la, tw, pd⟩ ⟨sq, ti, false, ty, pl⟩ = ⟨le, mo, nw, true, ze, fi, max hi sq, dn, (sp + (-(T - tr) - (sp + 8) / 16)), T, l.map TW.w, la, tw, pd⟩ := by
  unfold Jb.meas
  have hb : ¬(true = false ∨ (false = true ∧ hi < sq)) := by simp
  simp only [← HY.out, ← HT.out, if_true, hSP, if_neg hb]
 refine bodyPost_ret (v := .agg #[.int .i64 le, .int .i64 mo, .int .i64 nw, .bool true, .int .i64 ze, .int .i64 fi, .int .i64 (max hi sq), .int .i64 dn, .int .i64 (sp + (-(T - tr) - (sp + 8) / 16)), .int .i64 T, .slice A l.length qc, .int .i64 la, .int .i64 tw, .int .i64 pd]) (zcl Tryz.results105 rfl (run_loadVar_row (P := Tryz.prog) _ _ _ _ _ _ _ BF Tryz.underlying40 rfl (by kernel_rfl))) rfl ⟨by rw [hM]; rfl, ?_⟩
 exact Bel.drewN (((((Bel.refl w).push _).push _).push _)) _
theorem zhi (le mo nw : Int) (ze fi hi dn sp tr : Int) (A : Option Addr) (l : List TW) (n qc : Nat) (la tw pd : Int) (sq ti : Int) (mk : Bool) (ty : Int) (MA : Option Addr) (mn mc : Nat) (w : World) (hn : l.length = n) (hl : n ≤ 200) (hA : Wts w w.heap.size A l) (n0 : 0 ≤ nw) (n1 : nw ≤ 281474976710656) (t0 : -281474976710656 ≤ ti) (t1 : ti ≤ 281474976710656) (r0 : -1125899906842624 ≤ tr) (r1 : tr ≤ 1125899906842624) (s0 : 0 ≤ sp) (s1 : sp ≤ 72057594037927936) (c0 : 1 ≤ le) (c1 : le ≤ mo) (c2 : mo ≤ 1000) (hAt : ∀ a ∈ l, 0 ≤ a.w.at_ ∧ a.w.at_ ≤ 562949953421312) (pl : List Int) (hmk : mk = true) (hsq : sq ≤ hi) (hlt : nw - ti / 8 < tr) : Calls Tryz.prog 105 #[.agg #[.int .i64 le, .int .i64 mo, .int .i64 nw, .bool true, .int .i64 ze, .int .i64 fi, .int .i64 hi, .int .i64 dn, .int .i64 sp, .int .i64 tr, .slice A n qc, .int .i64 la, .int .i64 tw, .int .i64 pd], .agg #[.int .i64 sq, .int .i64 ti, .bool mk, .int .u8 ty, .slice MA mn mc]] w (MeasR ⟨le, mo, nw, true, ze, fi, hi, dn, sp, tr, l.map TW.w, la, tw, pd⟩ ⟨sq, ti, mk, ty, pl⟩ A n qc w) := by
 subst hn
 obtain ⟨y, hy⟩ : ∃ y, y = ti / 8 := ⟨_, rfl⟩
 have k1 := H9 fun W => zbe ti W (by omega) (by omega)
 rw [← hy] at k1
 have hyb : -35184372088832 ≤ y ∧ y ≤ 35184372088832 := by omega
 obtain ⟨y0, y1⟩ := hyb
 obtain ⟨T, hT⟩ : ∃ T, T = nw - y := ⟨_, rfl⟩
 have e1 : nw - y = T := hT.symm
 have ew : IntKind.i64.wrap (nw - y) = T := by rw [zam _ (by omega) (by omega)]; exact e1
 have HT := H9 hT
 have HY := H9 hy
 have T0 : -1000000000000000 ≤ T := by omega
 have T1 : T ≤ 1000000000000000 := by omega
 have HA := H9 hA
 have HAT := H9 hAt
 have hd : T < tr := by omega
 have sp0 : 0 ≤ (sp + (-(T - tr) - (sp + 8) / 16)) := by omega
 have sp1 : (sp + (-(T - tr) - (sp + 8) / 16)) ≤ 9000000000000000000 := by omega
 subst hmk
 have HSQ := H9 hsq
 clear hT hy hA hAt hlt
 go_enter Tryz.func105, Tryz.ntmps105
 go_wp2_with fail
 go_quiet ((go_at_call 150; exact Calls.quiet_of_same ((k1.out _).mono fun _ _ h => ⟨h.1, h.2.symm⟩)))
 go_wp2_with fail
 have hSP : sp + max (T - tr) (tr - T) - (sp + 8) / 16 = (sp + (-(T - tr) - (sp + 8) / 16)) := by omega
 have BF : Blk ((((w.alloc (.cells #[.int .i64 le, .int .i64 mo, .int .i64 nw, .bool true, .int .i64 ze, .int .i64 fi, .int .i64 (max hi sq), .int .i64 dn, .int .i64 (sp + (-(T - tr) - (sp + 8) / 16)), .int .i64 T, .slice A l.length qc, .int .i64 la, .int .i64 tw, .int .i64 pd] 40)).alloc (.cells #[.int .i64 sq, .int .i64 ti, .bool true, .int .u8 ty, .slice MA mn mc] 103)).alloc (.cells #[.int .i64 le, .int .i64 mo, .int .i64 nw, .bool true, .int .i64 ze, .int .i64 fi, .int .i64 (max hi sq), .int .i64 dn, .int .i64 (sp + (-(T - tr) - (sp + 8) / 16)), .int .i64 T, .slice A l.length qc, .int .i64 la, .int .i64 tw, .int .i64 pd] 40)).drewN nq) (w.heap.size + 1 + 1) 40 #[.int .i64 le, .int .i64 mo, .int .i64 nw, .bool true, .int .i64 ze, .int .i64 fi, .int .i64 (max hi sq), .int .i64 dn, .int .i64 (sp + (-(T - tr) - (sp + 8) / 16)), .int .i64 T, .slice A l.length qc, .int .i64 la, .int .i64 tw, .int .i64 pd] := by
  have h9 := Blk.new ((w.alloc (.cells #[.int .i64 le, .int .i64 mo, .int .i64 nw, .bool true, .int .i64 ze, .int .i64 fi, .int .i64 (max hi sq), .int .i64 dn, .int .i64 (sp + (-(T - tr) - (sp + 8) / 16)), .int .i64 T, .slice A l.length qc, .int .i64 la, .int .i64 tw, .int .i64 pd] 40)).alloc (.cells #[.int .i64 sq, .int .i64 ti, .bool true, .int .u8 ty, .slice MA mn mc] 103)) 40 #[.int .i64 le, .int .i64 mo, .int .i64 nw, .bool true, .int .i64 ze, .int .i64 fi, .int .i64 (max hi sq), .int .i64 dn, .int .i64 (sp + (-(T - tr) - (sp + 8) / 16)), .int .i64 T, .slice A l.length qc, .int .i64 la, .int .i64 tw, .int .i64 pd]
  rw [zal] at h9
  exact h9.drewN _
 have hM : Jb.meas ⟨le, mo, nw, true, ze, fi, hi, dn, sp, tr, l.map TW.w, la, tw, pd⟩ ⟨sq, ti, true, ty, pl⟩ = ⟨le, mo, nw, true, ze, fi, max hi sq, dn, (sp + (-(T - tr) - (sp + 8) / 16)), T, l.map TW.w, la, tw, pd⟩ := by
  unfold Jb.meas
  have hb : ¬(true = false ∨ (True ∧ hi < sq)) := by simp; exact HSQ.out
  simp only [← HY.out, ← HT.out, if_true, hSP, if_neg hb]
 refine bodyPost_ret (v := .agg #[.int .i64 le, .int .i64 mo, .int .i64 nw, .bool true, .int .i64 ze, .int .i64 fi, .int .i64 (max hi sq), .int .i64 dn, .int .i64 (sp + (-(T - tr) - (sp + 8) / 16)), .int .i64 T, .slice A l.length qc, .int .i64 la, .int .i64 tw, .int .i64 pd]) (zcl Tryz.results105 rfl (run_loadVar_row (P := Tryz.prog) _ _ _ _ _ _ _ BF Tryz.underlying40 rfl (by kernel_rfl))) rfl ⟨by rw [hM]; rfl, ?_⟩
 exact Bel.drewN (((((Bel.refl w).push _).push _).push _)) _
theorem zhj (le mo nw : Int) (ze fi hi dn sp tr : Int) (A : Option Addr) (l : List TW) (n qc : Nat) (la tw pd : Int) (sq ti : Int) (mk : Bool) (ty : Int) (MA : Option Addr) (mn mc : Nat) (w : World) (hn : l.length = n) (hl : n ≤ 200) (hA : Wts w w.heap.size A l) (n0 : 0 ≤ nw) (n1 : nw ≤ 281474976710656) (t0 : -281474976710656 ≤ ti) (t1 : ti ≤ 281474976710656) (r0 : -1125899906842624 ≤ tr) (r1 : tr ≤ 1125899906842624) (s0 : 0 ≤ sp) (s1 : sp ≤ 72057594037927936) (c0 : 1 ≤ le) (c1 : le ≤ mo) (c2 : mo ≤ 1000) (hAt : ∀ a ∈ l, 0 ≤ a.w.at_ ∧ a.w.at_ ≤ 562949953421312) (pl : List Int) (hmk : mk = true) (hsq : hi < sq) (h0 : n = 0) (hlt : nw - ti / 8 < tr) : Calls Tryz.prog 105 #[.agg #[.int .i64 le, .int .i64 mo, .int .i64 nw, .bool true, .int .i64 ze, .int .i64 fi, .int .i64 hi, .int .i64 dn, .int .i64 sp, .int .i64 tr, .slice A n qc, .int .i64 la, .int .i64 tw, .int .i64 pd], .agg #[.int .i64 sq, .int .i64 ti, .bool mk, .int .u8 ty, .slice MA mn mc]] w (MeasR ⟨le, mo, nw, true, ze, fi, hi, dn, sp, tr, l.map TW.w, la, tw, pd⟩ ⟨sq, ti, mk, ty, pl⟩ A n qc w) := by
 obtain rfl : l = [] := List.eq_nil_of_length_eq_zero (by omega)
 subst h0
 obtain ⟨y, hy⟩ : ∃ y, y = ti / 8 := ⟨_, rfl⟩
 have k1 := H9 fun W => zbe ti W (by omega) (by omega)
 rw [← hy] at k1
 have hyb : -35184372088832 ≤ y ∧ y ≤ 35184372088832 := by omega
 obtain ⟨y0, y1⟩ := hyb
 obtain ⟨T, hT⟩ : ∃ T, T = nw - y := ⟨_, rfl⟩
 have e1 : nw - y = T := hT.symm
 have ew : IntKind.i64.wrap (nw - y) = T := by rw [zam _ (by omega) (by omega)]; exact e1
 have HT := H9 hT
 have HY := H9 hy
 have T0 : -1000000000000000 ≤ T := by omega
 have T1 : T ≤ 1000000000000000 := by omega
 have HA := H9 hA
 have HAT := H9 hAt
 have hd : T < tr := by omega
 have sp0 : 0 ≤ (sp + (-(T - tr) - (sp + 8) / 16)) := by omega
 have sp1 : (sp + (-(T - tr) - (sp + 8) / 16)) ≤ 9000000000000000000 := by omega
 subst hmk
 have HSQ := H9 hsq
 clear hT hy hA hAt hlt
 go_enter Tryz.func105, Tryz.ntmps105
 go_wp2_with fail
 go_quiet ((go_at_call 150; exact Calls.quiet_of_same ((k1.out _).mono fun _ _ h => ⟨h.1, h.2.symm⟩)))
 go_wp2_with fail
 have hSP : sp + max (T - tr) (tr - T) - (sp + 8) / 16 = (sp + (-(T - tr) - (sp + 8) / 16)) := by omega
 have BF : Blk ((((w.alloc (.cells #[.int .i64 le, .int .i64 mo, .int .i64 nw, .bool true, .int .i64 (nw + min (le + (sp + (-(T - tr) - (sp + 8) / 16)) / 4) mo), .int .i64 ti, .int .i64 (max hi sq), .int .i64 dn, .int .i64 (sp + (-(T - tr) - (sp + 8) / 16)), .int .i64 T, .slice A 0 qc, .int .i64 la, .int .i64 tw, .int .i64 pd] 40)).alloc (.cells #[.int .i64 sq, .int .i64 ti, .bool true, .int .u8 ty, .slice MA mn mc] 103)).alloc (.cells #[.int .i64 le, .int .i64 mo, .int .i64 nw, .bool true, .int .i64 (nw + min (le + (sp + (-(T - tr) - (sp + 8) / 16)) / 4) mo), .int .i64 ti, .int .i64 (max hi sq), .int .i64 dn, .int .i64 (sp + (-(T - tr) - (sp + 8) / 16)), .int .i64 T, .slice A 0 qc, .int .i64 la, .int .i64 tw, .int .i64 pd] 40)).drewN nq) (w.heap.size + 1 + 1) 40 #[.int .i64 le, .int .i64 mo, .int .i64 nw, .bool true, .int .i64 (nw + min (le + (sp + (-(T - tr) - (sp + 8) / 16)) / 4) mo), .int .i64 ti, .int .i64 (max hi sq), .int .i64 dn, .int .i64 (sp + (-(T - tr) - (sp + 8) / 16)), .int .i64 T, .slice A 0 qc, .int .i64 la, .int .i64 tw, .int .i64 pd] := by
  have h9 := Blk.new ((w.alloc (.cells #[.int .i64 le, .int .i64 mo, .int .i64 nw, .bool true, .int .i64 (nw + min (le + (sp + (-(T - tr) - (sp + 8) / 16)) / 4) mo), .int .i64 ti, .int .i64 (max hi sq), .int .i64 dn, .int .i64 (sp + (-(T - tr) - (sp + 8) / 16)), .int .i64 T, .slice A 0 qc, .int .i64 la, .int .i64 tw, .int .i64 pd] 40)).alloc (.cells #[.int .i64 sq, .int .i64 ti, .bool true, .int .u8 ty, .slice MA mn mc] 103)) 40 #[.int .i64 le, .int .i64 mo, .int .i64 nw, .bool true, .int .i64 (nw + min (le + (sp + (-(T - tr) - (sp + 8) / 16)) / 4) mo), .int .i64 ti, .int .i64 (max hi sq), .int .i64 dn, .int .i64 (sp + (-(T - tr) - (sp + 8) / 16)), .int .i64 T, .slice A 0 qc, .int .i64 la, .int .i64 tw, .int .i64 pd]
  rw [zal] at h9
  exact h9.drewN _
 have hM : Jb.meas ⟨le, mo, nw, true, ze, fi, hi, dn, sp, tr, [].map TW.w, la, tw, pd⟩ ⟨sq, ti, true, ty, pl⟩ = ⟨le, mo, nw, true, (nw + min (le + (sp + (-(T - tr) - (sp + 8) / 16)) / 4) mo), ti, max hi sq, dn, (sp + (-(T - tr) - (sp + 8) / 16)), T, [], la, tw, pd⟩ := by
  unfold Jb.meas
  have hb : (true = false ∨ (True ∧ hi < sq)) := Or.inr ⟨trivial, HSQ.out⟩
  simp only [← HY.out, ← HT.out, if_true, hSP, if_pos hb]
  rfl
 refine bodyPost_ret (v := .agg #[.int .i64 le, .int .i64 mo, .int .i64 nw, .bool true, .int .i64 (nw + min (le + (sp + (-(T - tr) - (sp + 8) / 16)) / 4) mo), .int .i64 ti, .int .i64 (max hi sq), .int .i64 dn, .int .i64 (sp + (-(T - tr) - (sp + 8) / 16)), .int .i64 T, .slice A 0 qc, .int .i64 la, .int .i64 tw, .int .i64 pd]) (zcl Tryz.results105 rfl (run_loadVar_row (P := Tryz.prog) _ _ _ _ _ _ _ BF Tryz.underlying40 rfl (by kernel_rfl))) rfl ⟨by rw [hM]; rfl, ?_⟩
 exact Bel.drewN (((((Bel.refl w).push _).push _).push _)) _
theorem zhk (le mo nw : Int) (ze fi hi dn sp tr : Int) (A : Option Addr) (l : List TW) (n qc : Nat) (la tw pd : Int) (sq ti : Int) (mk : Bool) (ty : Int) (MA : Option Addr) (mn mc : Nat) (w : World) (hn : l.length = n) (hl : n ≤ 200) (hA : Wts w w.heap.size A l) (n0 : 0 ≤ nw) (n1 : nw ≤ 281474976710656) (t0 : -281474976710656 ≤ ti) (t1 : ti ≤ 281474976710656) (r0 : -1125899906842624 ≤ tr) (r1 : tr ≤ 1125899906842624) (s0 : 0 ≤ sp) (s1 : sp ≤ 72057594037927936) (c0 : 1 ≤ le) (c1 : le ≤ mo) (c2 : mo ≤ 1000) (hAt : ∀ a ∈ l, 0 ≤ a.w.at_ ∧ a.w.at_ ≤ 562949953421312) (pl : List Int) (hmk : mk = true) (hsq : hi < sq) (h0 : 0 < n) (hlt : nw - ti / 8 < tr) : Calls Tryz.prog 105 #[.agg #[.int .i64 le, .int .i64 mo, .int .i64 nw, .bool true, .int .i64 ze, .int .i64 fi, .int .i64 hi, .int .i64 dn, .int .i64 sp, .int .i64 tr, .slice A n qc, .int .i64 la, .int .i64 tw, .int .i64 pd], .agg #[.int .i64 sq, .int .i64 ti, .bool mk, .int .u8 ty, .slice MA mn mc]] w (MeasR ⟨le, mo, nw, true, ze, fi, hi, dn, sp, tr, l.map TW.w, la, tw, pd⟩ ⟨sq, ti, mk, ty, pl⟩ A n qc w) := by
 subst hn
 obtain ⟨y, hy⟩ : ∃ y, y = ti / 8 := ⟨_, rfl⟩
 have k1 := H9 fun W => zbe ti W (by omega) (by omega)
 rw [← hy] at k1
 have hyb : -35184372088832 ≤ y ∧ y ≤ 35184372088832 := by omega
 obtain ⟨y0, y1⟩ := hyb
 obtain ⟨T, hT⟩ : ∃ T, T = nw - y := ⟨_, rfl⟩
 have e1 : nw - y = T := hT.symm
 have ew : IntKind.i64.wrap (nw - y) = T := by rw [zam _ (by omega) (by omega)]; exact e1
 have HT := H9 hT
 have HY := H9 hy
 have T0 : -1000000000000000 ≤ T := by omega
 have T1 : T ≤ 1000000000000000 := by omega
 have HA := H9 hA
 have HAT := H9 hAt
 have hd : T < tr := by omega
 have sp0 : 0 ≤ (sp + (-(T - tr) - (sp + 8) / 16)) := by omega
 have sp1 : (sp + (-(T - tr) - (sp + 8) / 16)) ≤ 9000000000000000000 := by omega
 subst hmk
 have HSQ := H9 hsq
 clear hT hy hA hAt hlt
 have h0' : (0 : Int) < (l.length : Int) := by omega
 have h0n : ¬l.length = 0 := by omega
 have h0l : ¬l = [] := by intro h; rw [h] at h0n; exact h0n rfl
 obtain ⟨a, ha⟩ : ∃ a, l[l.length - 1]? = some a := ⟨_, List.getElem?_eq_getElem (by omega)⟩
 obtain ⟨b, off, rfl, hbB, e0, q1, q2, q3, q4, q5⟩ := zcj HA.out.1 ha
 obtain ⟨z0, z1⟩ := HAT.out a (List.mem_of_getElem? ha)
 have hgd : (l.map TW.w).getD (l.length - 1) Jb.Wt.zero = a.w := by simp [List.getD_eq_getElem?_getD, ha]
 have HGD := H9 hgd
 obtain ⟨at0, hat0⟩ : ∃ x, x = a.w.at_ := ⟨_, rfl⟩
 rw [← hat0] at e0 z0 z1
 have HAT0 := H9 hat0
 obtain ⟨m, hm⟩ : ∃ m, l.length = m + 1 := ⟨l.length - 1, by omega⟩
 rw [hm, Nat.add_sub_cancel] at e0
 have HMM := H9 hm
 have hw1 : IntKind.i64.wrap ((l.length : Int) - 1) = (m : Int) := by rw [zam _ (by omega) (by omega)]; omega
 have hw3 : (l.length : Int) - 1 = (m : Int) := by omega
 have hm0 : (0 : Int) ≤ (m : Int) := by omega
 have hm1 : (m : Int) < (l.length : Int) := by omega
 have hm2 : m < l.length := by omega
 have hw5 : IntKind.i64.wrap (at0 + 1) = at0 + 1 := zam _ (by omega) (by omega)
 have hce : ∀ o1 o2 o3 : Obj, (((w.alloc o1).alloc o2).alloc o3).cell? ⟨b, off + m * 6, none⟩ = some (.int .i64 at0) := fun o1 o2 o3 => by
  rw [World.cell?_alloc_lt _ _ _ (by simp; omega), World.cell?_alloc_lt _ _ _ (by simp; omega), World.cell?_alloc_lt _ _ _ (by exact hbB)]; exact e0
 have hb1 : ¬b = w.heap.size := by omega
 have hb2 : ¬b = w.heap.size + 1 := by omega
 have hb3 : ¬b = w.heap.size + 1 + 1 := by omega
 clear ha hgd hat0 hm q1 q2 q3 q4 q5 h0
 go_enter Tryz.func105, Tryz.ntmps105
 go_wp2_with fail
 go_quiet ((go_at_call 150; exact Calls.quiet_of_same ((k1.out _).mono fun _ _ h => ⟨h.1, h.2.symm⟩)))
 go_wp2_with fail
 go_region
 go_wp2_with fail
 have hSP : sp + max (T - tr) (tr - T) - (sp + 8) / 16 = (sp + (-(T - tr) - (sp + 8) / 16)) := by omega
 have hla : ∀ z, Jb.lastAt z (l.map TW.w) = max z (at0 + 1) := by
  intro z
  unfold Jb.lastAt
  rw [if_neg (by simp; omega), List.length_map, HGD.out, ← HAT0.out]
 have BF : Blk ((((w.alloc (.cells #[.int .i64 le, .int .i64 mo, .int .i64 nw, .bool true, .int .i64 (max (nw + min (le + (sp + (-(T - tr) - (sp + 8) / 16)) / 4) mo) (at0 + 1)), .int .i64 ti, .int .i64 (max hi sq), .int .i64 dn, .int .i64 (sp + (-(T - tr) - (sp + 8) / 16)), .int .i64 T, .slice (some ⟨b, off, none⟩) l.length qc, .int .i64 la, .int .i64 tw, .int .i64 pd] 40)).alloc (.cells #[.int .i64 sq, .int .i64 ti, .bool true, .int .u8 ty, .slice MA mn mc] 103)).alloc (.cells #[.int .i64 le, .int .i64 mo, .int .i64 nw, .bool true, .int .i64 (max (nw + min (le + (sp + (-(T - tr) - (sp + 8) / 16)) / 4) mo) (at0 + 1)), .int .i64 ti, .int .i64 (max hi sq), .int .i64 dn, .int .i64 (sp + (-(T - tr) - (sp + 8) / 16)), .int .i64 T, .slice (some ⟨b, off, none⟩) l.length qc, .int .i64 la, .int .i64 tw, .int .i64 pd] 40)).drewN (nq + 1)) (w.heap.size + 1 + 1) 40 #[.int .i64 le, .int .i64 mo, .int .i64 nw, .bool true, .int .i64 (max (nw + min (le + (sp + (-(T - tr) - (sp + 8) / 16)) / 4) mo) (at0 + 1)), .int .i64 ti, .int .i64 (max hi sq), .int .i64 dn, .int .i64 (sp + (-(T - tr) - (sp + 8) / 16)), .int .i64 T, .slice (some ⟨b, off, none⟩) l.length qc, .int .i64 la, .int .i64 tw, .int .i64 pd] := by
  have h9 := Blk.new ((w.alloc (.cells #[.int .i64 le, .int .i64 mo, .int .i64 nw, .bool true, .int .i64 (max (nw + min (le + (sp + (-(T - tr) - (sp + 8) / 16)) / 4) mo) (at0 + 1)), .int .i64 ti, .int .i64 (max hi sq), .int .i64 dn, .int .i64 (sp + (-(T - tr) - (sp + 8) / 16)), .int .i64 T, .slice (some ⟨b, off, none⟩) l.length qc, .int .i64 la, .int .i64 tw, .int .i64 pd] 40)).alloc (.cells #[.int .i64 sq, .int .i64 ti, .bool true, .int .u8 ty, .slice MA mn mc] 103)) 40 #[.int .i64 le, .int .i64 mo, .int .i64 nw, .bool true, .int .i64 (max (nw + min (le + (sp + (-(T - tr) - (sp + 8) / 16)) / 4) mo) (at0 + 1)), .int .i64 ti, .int .i64 (max hi sq), .int .i64 dn, .int .i64 (sp + (-(T - tr) - (sp + 8) / 16)), .int .i64 T, .slice (some ⟨b, off, none⟩) l.length qc, .int .i64 la, .int .i64 tw, .int .i64 pd]
  rw [zal] at h9
  exact h9.drewN _
 have hM : Jb.meas ⟨le, mo, nw, true, ze, fi, hi, dn, sp, tr, l.map TW.w, la, tw, pd⟩ ⟨sq, ti, true, ty, pl⟩ = ⟨le, mo, nw, true, (max (nw + min (le + (sp + (-(T - tr) - (sp + 8) / 16)) / 4) mo) (at0 + 1)), ti, max hi sq, dn, (sp + (-(T - tr) - (sp + 8) / 16)), T, l.map TW.w, la, tw, pd⟩ := by
  unfold Jb.meas
  have hb : (true = false ∨ (True ∧ hi < sq)) := Or.inr ⟨trivial, HSQ.out⟩
  simp only [← HY.out, ← HT.out, if_true, hSP, if_pos hb]
  rw [hla]
 refine bodyPost_ret (v := .agg #[.int .i64 le, .int .i64 mo, .int .i64 nw, .bool true, .int .i64 (max (nw + min (le + (sp + (-(T - tr) - (sp + 8) / 16)) / 4) mo) (at0 + 1)), .int .i64 ti, .int .i64 (max hi sq), .int .i64 dn, .int .i64 (sp + (-(T - tr) - (sp + 8) / 16)), .int .i64 T, .slice (some ⟨b, off, none⟩) l.length qc, .int .i64 la, .int .i64 tw, .int .i64 pd]) (zcl Tryz.results105 rfl (run_loadVar_row (P := Tryz.prog) _ _ _ _ _ _ _ BF Tryz.underlying40 rfl (by kernel_rfl))) rfl ⟨by rw [hM]; rfl, ?_⟩
 exact Bel.drewN (((((Bel.refl w).push _).push _).push _)) _
theorem zhl (le mo nw : Int) (ze fi hi dn sp tr : Int) (A : Option Addr) (l : List TW) (n qc : Nat) (la tw pd : Int) (sq ti : Int) (mk : Bool) (ty : Int) (MA : Option Addr) (mn mc : Nat) (w : World) (hn : l.length = n) (hl : n ≤ 200) (hA : Wts w w.heap.size A l) (n0 : 0 ≤ nw) (n1 : nw ≤ 281474976710656) (t0 : -281474976710656 ≤ ti) (t1 : ti ≤ 281474976710656) (r0 : -1125899906842624 ≤ tr) (r1 : tr ≤ 1125899906842624) (s0 : 0 ≤ sp) (s1 : sp ≤ 72057594037927936) (c0 : 1 ≤ le) (c1 : le ≤ mo) (c2 : mo ≤ 1000) (hAt : ∀ a ∈ l, 0 ≤ a.w.at_ ∧ a.w.at_ ≤ 562949953421312) (pl : List Int) (hmk : mk = false) (hlt : tr ≤ nw - ti / 8) : Calls Tryz.prog 105 #[.agg #[.int .i64 le, .int .i64 mo, .int .i64 nw, .bool true, .int .i64 ze, .int .i64 fi, .int .i64 hi, .int .i64 dn, .int .i64 sp, .int .i64 tr, .slice A n qc, .int .i64 la, .int .i64 tw, .int .i64 pd], .agg #[.int .i64 sq, .int .i64 ti, .bool mk, .int .u8 ty, .slice MA mn mc]] w (MeasR ⟨le, mo, nw, true, ze, fi, hi, dn, sp, tr, l.map TW.w, la, tw, pd⟩ ⟨sq, ti, mk, ty, pl⟩ A n qc w) := by
 subst hn
 obtain ⟨y, hy⟩ : ∃ y, y = ti / 8 := ⟨_, rfl⟩
 have k1 := H9 fun W => zbe ti W (by omega) (by omega)
 rw [← hy] at k1
 have hyb : -35184372088832 ≤ y ∧ y ≤ 35184372088832 := by omega
 obtain ⟨y0, y1⟩ := hyb
 obtain ⟨T, hT⟩ : ∃ T, T = nw - y := ⟨_, rfl⟩
 have e1 : nw - y = T := hT.symm
 have ew : IntKind.i64.wrap (nw - y) = T := by rw [zam _ (by omega) (by omega)]; exact e1
 have HT := H9 hT
 have HY := H9 hy
 have T0 : -1000000000000000 ≤ T := by omega
 have T1 : T ≤ 1000000000000000 := by omega
 have HA := H9 hA
 have HAT := H9 hAt
 have hd : tr ≤ T := by omega
 have sp0 : 0 ≤ (sp + (T - tr - (sp + 8) / 16)) := by omega
 have sp1 : (sp + (T - tr - (sp + 8) / 16)) ≤ 9000000000000000000 := by omega
 subst hmk
 clear hT hy hA hAt hlt
 go_enter Tryz.func105, Tryz.ntmps105
 go_wp2_with fail
 go_quiet ((go_at_call 150; exact Calls.quiet_of_same ((k1.out _).mono fun _ _ h => ⟨h.1, h.2.symm⟩)))
 go_wp2_with fail
 have hSP : sp + max (T - tr) (tr - T) - (sp + 8) / 16 = (sp + (T - tr - (sp + 8) / 16)) := by omega
 have BF : Blk ((((w.alloc (.cells #[.int .i64 le, .int .i64 mo, .int .i64 nw, .bool true, .int .i64 ze, .int .i64 fi, .int .i64 (max hi sq), .int .i64 dn, .int .i64 (sp + (T - tr - (sp + 8) / 16)), .int .i64 T, .slice A l.length qc, .int .i64 la, .int .i64 tw, .int .i64 pd] 40)).alloc (.cells #[.int .i64 sq, .int .i64 ti, .bool false, .int .u8 ty, .slice MA mn mc] 103)).alloc (.cells #[.int .i64 le, .int .i64 mo, .int .i64 nw, .bool true, .int .i64 ze, .int .i64 fi, .int .i64 (max hi sq), .int .i64 dn, .int .i64 (sp + (T - tr - (sp + 8) / 16)), .int .i64 T, .slice A l.length qc, .int .i64 la, .int .i64 tw, .int .i64 pd] 40)).drewN nq) (w.heap.size + 1 + 1) 40 #[.int .i64 le, .int .i64 mo, .int .i64 nw, .bool true, .int .i64 ze, .int .i64 fi, .int .i64 (max hi sq), .int .i64 dn, .int .i64 (sp + (T - tr - (sp + 8) / 16)), .int .i64 T, .slice A l.length qc, .int .i64 la, .int .i64 tw, .int .i64 pd] := by
  have h9 := Blk.new ((w.alloc (.cells #[.int .i64 le, .int .i64 mo, .int .i64 nw, .bool true, .int .i64 ze, .int .i64 fi, .int .i64 (max hi sq), .int .i64 dn, .int .i64 (sp + (T - tr - (sp + 8) / 16)), .int .i64 T, .slice A l.length qc, .int .i64 la, .int .i64 tw, .int .i64 pd] 40)).alloc (.cells #[.int .i64 sq, .int .i64 ti, .bool false, .int .u8 ty, .slice MA mn mc] 103)) 40 #[.int .i64 le, .int .i64 mo, .int .i64 nw, .bool true, .int .i64 ze, .int .i64 fi, .int .i64 (max hi sq), .int .i64 dn, .int .i64 (sp + (T - tr - (sp + 8) / 16)), .int .i64 T, .slice A l.length qc, .int .i64 la, .int .i64 tw, .int .i64 pd]
  rw [zal] at h9
  exact h9.drewN _
 have hM : Jb.meas ⟨le, mo, nw, true, ze, fi, hi, dn, sp, tr, l.map TW.w, la, tw, pd⟩ ⟨sq, ti, false, ty, pl⟩ = ⟨le, mo, nw, true, ze, fi, max hi sq, dn, (sp + (T - tr - (sp + 8) / 16)), T, l.map TW.w, la, tw, pd⟩ := by
  unfold Jb.meas
  have hb : ¬(true = false ∨ (false = true ∧ hi < sq)) := by simp
  simp only [← HY.out, ← HT.out, if_true, hSP, if_neg hb]
 refine bodyPost_ret (v := .agg #[.int .i64 le, .int .i64 mo, .int .i64 nw, .bool true, .int .i64 ze, .int .i64 fi, .int .i64 (max hi sq), .int .i64 dn, .int .i64 (sp + (T - tr - (sp + 8) / 16)), .int .i64 T, .slice A l.length qc, .int .i64 la, .int .i64 tw, .int .i64 pd]) (zcl Tryz.results105 rfl (run_loadVar_row (P := Tryz.prog) _ _ _ _ _ _ _ BF Tryz.underlying40 rfl (by kernel_rfl))) rfl ⟨by rw [hM]; rfl, ?_⟩
 exact Bel.drewN (((((Bel.refl w).push _).push _).push _)) _
theorem zhm (le mo nw : Int) (ze fi hi dn sp tr : Int) (A : Option Addr) (l : List TW) (n qc : Nat) (la tw pd : Int) (sq ti : Int) (mk : Bool) (ty : Int) (MA : Option Addr) (mn mc : Nat) (w : World) (hn : l.length = n) (hl : n ≤ 200) (hA : Wts w w.heap.size A l) (n0 : 0 ≤ nw) (n1 : nw ≤ 281474976710656) (t0 : -281474976710656 ≤ ti) (t1 : ti ≤ 281474976710656) (r0 : -1125899906842624 ≤ tr) (r1 : tr ≤ 1125899906842624) (s0 : 0 ≤ sp) (s1 : sp ≤ 72057594037927936) (c0 : 1 ≤ le) (c1 : le ≤ mo) (c2 : mo ≤ 1000) (hAt : ∀ a ∈ l, 0 ≤ a.w.at_ ∧ a.w.at_ ≤ 562949953421312) (pl : List Int) (hmk : mk = true) (hsq : sq ≤ hi) (hlt : tr ≤ nw - ti / 8) : Calls Tryz.prog 105 #[.agg #[.int .i64 le, .int .i64 mo, .int .i64 nw, .bool true, .int .i64 ze, .int .i64 fi, .int .i64 hi, .int .i64 dn, .int .i64 sp, .int .i64 tr, .slice A n qc, .int .i64 la, .int .i64 tw, .int .i64 pd], .agg #[.int .i64 sq, .int .i64 ti, .bool mk, .int .u8 ty, .slice MA mn mc]] w (MeasR ⟨le, mo, nw, true, ze, fi, hi, dn, sp, tr, l.map TW.w, la, tw, pd⟩ ⟨sq, ti, mk, ty, pl⟩ A n qc w) := by
 subst hn
 obtain ⟨y, hy⟩ : ∃ y, y = ti / 8 := ⟨_, rfl⟩
 have k1 := H9 fun W => zbe ti W (by omega) (by omega)
 rw [← hy] at k1
 have hyb : -35184372088832 ≤ y ∧ y ≤ 35184372088832 := by omega
 obtain ⟨y0, y1⟩ := hyb
 obtain ⟨T, hT⟩ : ∃ T, T = nw - y := ⟨_, rfl⟩
 have e1 : nw - y = T := hT.symm
 have ew : IntKind.i64.wrap (nw - y) = T := by rw [zam _ (by omega) (by omega)]; exact e1
 have HT := H9 hT
 have HY := H9 hy
 have T0 : -1000000000000000 ≤ T := by omega
 have T1 : T ≤ 1000000000000000 := by omega
 have HA := H9 hA
 have HAT := H9 hAt
 have hd : tr ≤ T := by omega
 have sp0 : 0 ≤ (sp + (T - tr - (sp + 8) / 16)) := by omega
 have sp1 : (sp + (T - tr - (sp + 8) / 16)) ≤ 9000000000000000000 := by omega
 subst hmk
 have HSQ := H9 hsq
 clear hT hy hA hAt hlt
 go_enter Tryz.func105, Tryz.ntmps105
 go_wp2_with fail
 go_quiet ((go_at_call 150; exact Calls.quiet_of_same ((k1.out _).mono fun _ _ h => ⟨h.1, h.2.symm⟩)))
 go_wp2_with fail
 have hSP : sp + max (T - tr) (tr - T) - (sp + 8) / 16 = (sp + (T - tr - (sp + 8) / 16)) := by omega
 have BF : Blk ((((w.alloc (.cells #[.int .i64 le, .int .i64 mo, .int .i64 nw, .bool true, .int .i64 ze, .int .i64 fi, .int .i64 (max hi sq), .int .i64 dn, .int .i64 (sp + (T - tr - (sp + 8) / 16)), .int .i64 T, .slice A l.length qc, .int .i64 la, .int .i64 tw, .int .i64 pd] 40)).alloc (.cells #[.int .i64 sq, .int .i64 ti, .bool true, .int .u8 ty, .slice MA mn mc] 103)).alloc (.cells #[.int .i64 le, .int .i64 mo, .int .i64 nw, .bool true, .int .i64 ze, .int .i64 fi, .int .i64 (max hi sq), .int .i64 dn, .int .i64 (sp + (T - tr - (sp + 8) / 16)), .int .i64 T, .slice A l.length qc, .int .i64 la, .int .i64 tw, .int .i64 pd] 40)).drewN nq) (w.heap.size + 1 + 1) 40 #[.int .i64 le, .int .i64 mo, .int .i64 nw, .bool true, .int .i64 ze, .int .i64 fi, .int .i64 (max hi sq), .int .i64 dn, .int .i64 (sp + (T - tr - (sp + 8) / 16)), .int .i64 T, .slice A l.length qc, .int .i64 la, .int .i64 tw, .int .i64 pd] := by
  have h9 := Blk.new ((w.alloc (.cells #[.int .i64 le, .int .i64 mo, .int .i64 nw, .bool true, .int .i64 ze, .int .i64 fi, .int .i64 (max hi sq), .int .i64 dn, .int .i64 (sp + (T - tr - (sp + 8) / 16)), .int .i64 T, .slice A l.length qc, .int .i64 la, .int .i64 tw, .int .i64 pd] 40)).alloc (.cells #[.int .i64 sq, .int .i64 ti, .bool true, .int .u8 ty, .slice MA mn mc] 103)) 40 #[.int .i64 le, .int .i64 mo, .int .i64 nw, .bool true, .int .i64 ze, .int .i64 fi, .int .i64 (max hi sq), .int .i64 dn, .int .i64 (sp + (T - tr - (sp + 8) / 16)), .int .i64 T, .slice A l.length qc, .int .i64 la, .int .i64 tw, .int .i64 pd]
  rw [zal] at h9
  exact h9.drewN _
 have hM : Jb.meas ⟨le, mo, nw, true, ze, fi, hi, dn, sp, tr, l.map TW.w, la, tw, pd⟩ ⟨sq, ti, true, ty, pl⟩ = ⟨le, mo, nw, true, ze, fi, max hi sq, dn, (sp + (T - tr - (sp + 8) / 16)), T, l.map TW.w, la, tw, pd⟩ := by
  unfold Jb.meas
  have hb : ¬(true = false ∨ (True ∧ hi < sq)) := by simp; exact HSQ.out
  simp only [← HY.out, ← HT.out, if_true, hSP, if_neg hb]
 refine bodyPost_ret (v := .agg #[.int .i64 le, .int .i64 mo, .int .i64 nw, .bool true, .int .i64 ze, .int .i64 fi, .int .i64 (max hi sq), .int .i64 dn, .int .i64 (sp + (T - tr - (sp + 8) / 16)), .int .i64 T, .slice A l.length qc, .int .i64 la, .int .i64 tw, .int .i64 pd]) (zcl Tryz.results105 rfl (run_loadVar_row (P := Tryz.prog) _ _ _ _ _ _ _ BF Tryz.underlying40 rfl (by kernel_rfl))) rfl ⟨by rw [hM]; rfl, ?_⟩
 exact Bel.drewN (((((Bel.refl w).push _).push _).push _)) _
theorem zhn (le mo nw : Int) (ze fi hi dn sp tr : Int) (A : Option Addr) (l : List TW) (n qc : Nat) (la tw pd : Int) (sq ti : Int) (mk : Bool) (ty : Int) (MA : Option Addr) (mn mc : Nat) (w : World) (hn : l.length = n) (hl : n ≤ 200) (hA : Wts w w.heap.size A l) (n0 : 0 ≤ nw) (n1 : nw ≤ 281474976710656) (t0 : -281474976710656 ≤ ti) (t1 : ti ≤ 281474976710656) (r0 : -1125899906842624 ≤ tr) (r1 : tr ≤ 1125899906842624) (s0 : 0 ≤ sp) (s1 : sp ≤ 72057594037927936) (c0 : 1 ≤ le) (c1 : le ≤ mo) (c2 : mo ≤ 1000) (hAt : ∀ a ∈ l, 0 ≤ a.w.at_ ∧ a.w.at_ ≤ 562949953421312) (pl : List Int) (hmk : mk = true) (hsq : hi < sq) (h0 : n = 0) (hlt : tr ≤ nw - ti / 8) : Calls Tryz.prog 105 #[.agg #[.int .i64 le, .int .i64 mo, .int .i64 nw, .bool true, .int .i64 ze, .int .i64 fi, .int .i64 hi, .int .i64 dn, .int .i64 sp, .int .i64 tr, .slice A n qc, .int .i64 la, .int .i64 tw, .int .i64 pd], .agg #[.int .i64 sq, .int .i64 ti, .bool mk, .int .u8 ty, .slice MA mn mc]] w (MeasR ⟨le, mo, nw, true, ze, fi, hi, dn, sp, tr, l.map TW.w, la, tw, pd⟩ ⟨sq, ti, mk, ty, pl⟩ A n qc w) := by
 obtain rfl : l = [] := List.eq_nil_of_length_eq_zero (by omega)
 subst h0
 obtain ⟨y, hy⟩ : ∃ y, y = ti / 8 := ⟨_, rfl⟩
 have k1 := H9 fun W => zbe ti W (by omega) (by omega)
 rw [← hy] at k1
 have hyb : -35184372088832 ≤ y ∧ y ≤ 35184372088832 := by omega
 obtain ⟨y0, y1⟩ := hyb
 obtain ⟨T, hT⟩ : ∃ T, T = nw - y := ⟨_, rfl⟩
 have e1 : nw - y = T := hT.symm
 have ew : IntKind.i64.wrap (nw - y) = T := by rw [zam _ (by omega) (by omega)]; exact e1
 have HT := H9 hT
 have HY := H9 hy
 have T0 : -1000000000000000 ≤ T := by omega
 have T1 : T ≤ 1000000000000000 := by omega
 have HA := H9 hA
 have HAT := H9 hAt
 have hd : tr ≤ T := by omega
 have sp0 : 0 ≤ (sp + (T - tr - (sp + 8) / 16)) := by omega
 have sp1 : (sp + (T - tr - (sp + 8) / 16)) ≤ 9000000000000000000 := by omega
 subst hmk
 have HSQ := H9 hsq
 clear hT hy hA hAt hlt
 go_enter Tryz.func105, Tryz.ntmps105
 go_wp2_with fail
 go_quiet ((go_at_call 150; exact Calls.quiet_of_same ((k1.out _).mono fun _ _ h => ⟨h.1, h.2.symm⟩)))
 go_wp2_with fail
 have hSP : sp + max (T - tr) (tr - T) - (sp + 8) / 16 = (sp + (T - tr - (sp + 8) / 16)) := by omega
 have BF : Blk ((((w.alloc (.cells #[.int .i64 le, .int .i64 mo, .int .i64 nw, .bool true, .int .i64 (nw + min (le + (sp + (T - tr - (sp + 8) / 16)) / 4) mo), .int .i64 ti, .int .i64 (max hi sq), .int .i64 dn, .int .i64 (sp + (T - tr - (sp + 8) / 16)), .int .i64 T, .slice A 0 qc, .int .i64 la, .int .i64 tw, .int .i64 pd] 40)).alloc (.cells #[.int .i64 sq, .int .i64 ti, .bool true, .int .u8 ty, .slice MA mn mc] 103)).alloc (.cells #[.int .i64 le, .int .i64 mo, .int .i64 nw, .bool true, .int .i64 (nw + min (le + (sp + (T - tr - (sp + 8) / 16)) / 4) mo), .int .i64 ti, .int .i64 (max hi sq), .int .i64 dn, .int .i64 (sp + (T - tr - (sp + 8) / 16)), .int .i64 T, .slice A 0 qc, .int .i64 la, .int .i64 tw, .int .i64 pd] 40)).drewN nq) (w.heap.size + 1 + 1) 40 #[.int .i64 le, .int .i64 mo, .int .i64 nw, .bool true, .int .i64 (nw + min (le + (sp + (T - tr - (sp + 8) / 16)) / 4) mo), .int .i64 ti, .int .i64 (max hi sq), .int .i64 dn, .int .i64 (sp + (T - tr - (sp + 8) / 16)), .int .i64 T, .slice A 0 qc, .int .i64 la, .int .i64 tw, .int .i64 pd] := by
  have h9 := Blk.new ((w.alloc (.cells #[.int .i64 le, .int .i64 mo, .int .i64 nw, .bool true, .int .i64 (nw + min (le + (sp + (T - tr - (sp + 8) / 16)) / 4) mo), .int .i64 ti, .int .i64 (max hi sq), .int .i64 dn, .int .i64 (sp + (T - tr - (sp + 8) / 16)), .int .i64 T, .slice A 0 qc, .int .i64 la, .int .i64 tw, .int .i64 pd] 40)).alloc (.cells #[.int .i64 sq, .int .i64 ti, .bool true, .int .u8 ty, .slice MA mn mc] 103)) 40 #[.int .i64 le, .int .i64 mo, .int .i64 nw, .bool true, .int .i64 (nw + min (le + (sp + (T - tr - (sp + 8) / 16)) / 4) mo), .int .i64 ti, .int .i64 (max hi sq), .int .i64 dn, .int .i64 (sp + (T - tr - (sp + 8) / 16)), .int .i64 T, .slice A 0 qc, .int .i64 la, .int .i64 tw, .int .i64 pd]
  rw [zal] at h9
  exact h9.drewN _
 have hM : Jb.meas ⟨le, mo, nw, true, ze, fi, hi, dn, sp, tr, [].map TW.w, la, tw, pd⟩ ⟨sq, ti, true, ty, pl⟩ = ⟨le, mo, nw, true, (nw + min (le + (sp + (T - tr - (sp + 8) / 16)) / 4) mo), ti, max hi sq, dn, (sp + (T - tr - (sp + 8) / 16)), T, [], la, tw, pd⟩ := by
  unfold Jb.meas
  have hb : (true = false ∨ (True ∧ hi < sq)) := Or.inr ⟨trivial, HSQ.out⟩
  simp only [← HY.out, ← HT.out, if_true, hSP, if_pos hb]
  rfl
 refine bodyPost_ret (v := .agg #[.int .i64 le, .int .i64 mo, .int .i64 nw, .bool true, .int .i64 (nw + min (le + (sp + (T - tr - (sp + 8) / 16)) / 4) mo), .int .i64 ti, .int .i64 (max hi sq), .int .i64 dn, .int .i64 (sp + (T - tr - (sp + 8) / 16)), .int .i64 T, .slice A 0 qc, .int .i64 la, .int .i64 tw, .int .i64 pd]) (zcl Tryz.results105 rfl (run_loadVar_row (P := Tryz.prog) _ _ _ _ _ _ _ BF Tryz.underlying40 rfl (by kernel_rfl))) rfl ⟨by rw [hM]; rfl, ?_⟩
 exact Bel.drewN (((((Bel.refl w).push _).push _).push _)) _
theorem zho (le mo nw : Int) (ze fi hi dn sp tr : Int) (A : Option Addr) (l : List TW) (n qc : Nat) (la tw pd : Int) (sq ti : Int) (mk : Bool) (ty : Int) (MA : Option Addr) (mn mc : Nat) (w : World) (hn : l.length = n) (hl : n ≤ 200) (hA : Wts w w.heap.size A l) (n0 : 0 ≤ nw) (n1 : nw ≤ 281474976710656) (t0 : -281474976710656 ≤ ti) (t1 : ti ≤ 281474976710656) (r0 : -1125899906842624 ≤ tr) (r1 : tr ≤ 1125899906842624) (s0 : 0 ≤ sp) (s1 : sp ≤ 72057594037927936) (c0 : 1 ≤ le) (c1 : le ≤ mo) (c2 : mo ≤ 1000) (hAt : ∀ a ∈ l, 0 ≤ a.w.at_ ∧ a.w.at_ ≤ 562949953421312) (pl : List Int) (hmk : mk = true) (hsq : hi < sq) (h0 : 0 < n) (hlt : tr ≤ nw - ti / 8) : Calls Tryz.prog 105 #[.agg #[.int .i64 le, .int .i64 mo, .int .i64 nw, .bool true, .int .i64 ze, .int .i64 fi, .int .i64 hi, .int .i64 dn, .int .i64 sp, .int .i64 tr, .slice A n qc, .int .i64 la, .int .i64 tw, .int .i64 pd], .agg #[.int .i64 sq, .int .i64 ti, .bool mk, .int .u8 ty, .slice MA mn mc]] w (MeasR ⟨le, mo, nw, true, ze, fi, hi, dn, sp, tr, l.map TW.w, la, tw, pd⟩ ⟨sq, ti, mk, ty, pl⟩ A n qc w) := by
 subst hn
 obtain ⟨y, hy⟩ : ∃ y, y = ti / 8 := ⟨_, rfl⟩
 have k1 := H9 fun W => zbe ti W (by omega) (by omega)
 rw [← hy] at k1
 have hyb : -35184372088832 ≤ y ∧ y ≤ 35184372088832 := by omega
 obtain ⟨y0, y1⟩ := hyb
 obtain ⟨T, hT⟩ : ∃ T, T = nw - y := ⟨_, rfl⟩
 have e1 : nw - y = T := hT.symm
 have ew : IntKind.i64.wrap (nw - y) = T := by rw [zam _ (by omega) (by omega)]; exact e1
 have HT := H9 hT
 have HY := H9 hy
 have T0 : -1000000000000000 ≤ T := by omega
 have T1 : T ≤ 1000000000000000 := by omega
 have HA := H9 hA
 have HAT := H9 hAt
 have hd : tr ≤ T := by omega
 have sp0 : 0 ≤ (sp + (T - tr - (sp + 8) / 16)) := by omega
 have sp1 : (sp + (T - tr - (sp + 8) / 16)) ≤ 9000000000000000000 := by omega
 subst hmk
 have HSQ := H9 hsq
 clear hT hy hA hAt hlt
 have h0' : (0 : Int) < (l.length : Int) := by omega
 have h0n : ¬l.length = 0 := by omega
 have h0l : ¬l = [] := by intro h; rw [h] at h0n; exact h0n rfl
 obtain ⟨a, ha⟩ : ∃ a, l[l.length - 1]? = some a := ⟨_, List.getElem?_eq_getElem (by omega)⟩
 obtain ⟨b, off, rfl, hbB, e0, q1, q2, q3, q4, q5⟩ := zcj HA.out.1 ha
 obtain ⟨z0, z1⟩ := HAT.out a (List.mem_of_getElem? ha)
 have hgd : (l.map TW.w).getD (l.length - 1) Jb.Wt.zero = a.w := by simp [List.getD_eq_getElem?_getD, ha]
 have HGD := H9 hgd
 obtain ⟨at0, hat0⟩ : ∃ x, x = a.w.at_ := ⟨_, rfl⟩
 rw [← hat0] at e0 z0 z1
 have HAT0 := H9 hat0
 obtain ⟨m, hm⟩ : ∃ m, l.length = m + 1 := ⟨l.length - 1, by omega⟩
 rw [hm, Nat.add_sub_cancel] at e0
 have HMM := H9 hm
 have hw1 : IntKind.i64.wrap ((l.length : Int) - 1) = (m : Int) := by rw [zam _ (by omega) (by omega)]; omega
 have hw3 : (l.length : Int) - 1 = (m : Int) := by omega
 have hm0 : (0 : Int) ≤ (m : Int) := by omega
 have hm1 : (m : Int) < (l.length : Int) := by omega
 have hm2 : m < l.length := by omega
 have hw5 : IntKind.i64.wrap (at0 + 1) = at0 + 1 := zam _ (by omega) (by omega)
 have hce : ∀ o1 o2 o3 : Obj, (((w.alloc o1).alloc o2).alloc o3).cell? ⟨b, off + m * 6, none⟩ = some (.int .i64 at0) := fun o1 o2 o3 => by
  rw [World.cell?_alloc_lt _ _ _ (by simp; omega), World.cell?_alloc_lt _ _ _ (by simp; omega), World.cell?_alloc_lt _ _ _ (by exact hbB)]; exact e0
 have hb1 : ¬b = w.heap.size := by omega
 have hb2 : ¬b = w.heap.size + 1 := by omega
 have hb3 : ¬b = w.heap.size + 1 + 1 := by omega
 clear ha hgd hat0 hm q1 q2 q3 q4 q5 h0
 go_enter Tryz.func105, Tryz.ntmps105
 go_wp2_with fail
 go_quiet ((go_at_call 150; exact Calls.quiet_of_same ((k1.out _).mono fun _ _ h => ⟨h.1, h.2.symm⟩)))
 go_wp2_with fail
 go_region
 go_wp2_with fail
 have hSP : sp + max (T - tr) (tr - T) - (sp + 8) / 16 = (sp + (T - tr - (sp + 8) / 16)) := by omega
 have hla : ∀ z, Jb.lastAt z (l.map TW.w) = max z (at0 + 1) := by
  intro z
  unfold Jb.lastAt
  rw [if_neg (by simp; omega), List.length_map, HGD.out, ← HAT0.out]
 have BF : Blk ((((w.alloc (.cells #[.int .i64 le, .int .i64 mo, .int .i64 nw, .bool true, .int .i64 (max (nw + min (le + (sp + (T - tr - (sp + 8) / 16)) / 4) mo) (at0 + 1)), .int .i64 ti, .int .i64 (max hi sq), .int .i64 dn, .int .i64 (sp + (T - tr - (sp + 8) / 16)), .int .i64 T, .slice (some ⟨b, off, none⟩) l.length qc, .int .i64 la, .int .i64 tw, .int .i64 pd] 40)).alloc (.cells #[.int .i64 sq, .int .i64 ti, .bool true, .int .u8 ty, .slice MA mn mc] 103)).alloc (.cells #[.int .i64 le, .int .i64 mo, .int .i64 nw, .bool true, .int .i64 (max (nw + min (le + (sp + (T - tr - (sp + 8) / 16)) / 4) mo) (at0 + 1)), .int .i64 ti, .int .i64 (max hi sq), .int .i64 dn, .int .i64 (sp + (T - tr - (sp + 8) / 16)), .int .i64 T, .slice (some ⟨b, off, none⟩) l.length qc, .int .i64 la, .int .i64 tw, .int .i64 pd] 40)).drewN (nq + 1)) (w.heap.size + 1 + 1) 40 #[.int .i64 le, .int .i64 mo, .int .i64 nw, .bool true, .int .i64 (max (nw + min (le + (sp + (T - tr - (sp + 8) / 16)) / 4) mo) (at0 + 1)), .int .i64 ti, .int .i64 (max hi sq), .int .i64 dn, .int .i64 (sp + (T - tr - (sp + 8) / 16)), .int .i64 T, .slice (some ⟨b, off, none⟩) l.length qc, .int .i64 la, .int .i64 tw, .int .i64 pd] := by
  have h9 := Blk.new ((w.alloc (.cells #[.int .i64 le, .int .i64 mo, .int .i64 nw, .bool true, .int .i64 (max (nw + min (le + (sp + (T - tr - (sp + 8) / 16)) / 4) mo) (at0 + 1)), .int .i64 ti, .int .i64 (max hi sq), .int .i64 dn, .int .i64 (sp + (T - tr - (sp + 8) / 16)), .int .i64 T, .slice (some ⟨b, off, none⟩) l.length qc, .int .i64 la, .int .i64 tw, .int .i64 pd] 40)).alloc (.cells #[.int .i64 sq, .int .i64 ti, .bool true, .int .u8 ty, .slice MA mn mc] 103)) 40 #[.int .i64 le, .int .i64 mo, .int .i64 nw, .bool true, .int .i64 (max (nw + min (le + (sp + (T - tr - (sp + 8) / 16)) / 4) mo) (at0 + 1)), .int .i64 ti, .int .i64 (max hi sq), .int .i64 dn, .int .i64 (sp + (T - tr - (sp + 8) / 16)), .int .i64 T, .slice (some ⟨b, off, none⟩) l.length qc, .int .i64 la, .int .i64 tw, .int .i64 pd]
  rw [zal] at h9
  exact h9.drewN _
 have hM : Jb.meas ⟨le, mo, nw, true, ze, fi, hi, dn, sp, tr, l.map TW.w, la, tw, pd⟩ ⟨sq, ti, true, ty, pl⟩ = ⟨le, mo, nw, true, (max (nw + min (le + (sp + (T - tr - (sp + 8) / 16)) / 4) mo) (at0 + 1)), ti, max hi sq, dn, (sp + (T - tr - (sp + 8) / 16)), T, l.map TW.w, la, tw, pd⟩ := by
  unfold Jb.meas
  have hb : (true = false ∨ (True ∧ hi < sq)) := Or.inr ⟨trivial, HSQ.out⟩
  simp only [← HY.out, ← HT.out, if_true, hSP, if_pos hb]
  rw [hla]
 refine bodyPost_ret (v := .agg #[.int .i64 le, .int .i64 mo, .int .i64 nw, .bool true, .int .i64 (max (nw + min (le + (sp + (T - tr - (sp + 8) / 16)) / 4) mo) (at0 + 1)), .int .i64 ti, .int .i64 (max hi sq), .int .i64 dn, .int .i64 (sp + (T - tr - (sp + 8) / 16)), .int .i64 T, .slice (some ⟨b, off, none⟩) l.length qc, .int .i64 la, .int .i64 tw, .int .i64 pd]) (zcl Tryz.results105 rfl (run_loadVar_row (P := Tryz.prog) _ _ _ _ _ _ _ BF Tryz.underlying40 rfl (by kernel_rfl))) rfl ⟨by rw [hM]; rfl, ?_⟩
 exact Bel.drewN (((((Bel.refl w).push _).push _).push _)) _
theorem zbx (le mo nw : Int) (on : Bool) (ze fi hi dn sp tr : Int) (A : Option Addr) (l : List TW) (n qc : Nat) (la tw pd : Int) (sq ti : Int) (mk : Bool) (ty : Int) (MA : Option Addr) (mn mc : Nat) (w : World) (hn : l.length = n)(hl : n ≤ 200) (hA : Wts w w.heap.size A l) (n0 : 0 ≤ nw) (n1 : nw ≤ 281474976710656) (t0 : -281474976710656 ≤ ti) (t1 : ti ≤ 281474976710656) (r0 : -1125899906842624 ≤ tr) (r1 : tr ≤ 1125899906842624) (s0 : 0 ≤ sp) (s1 : sp ≤ 72057594037927936) (c0 : 1 ≤ le) (c1 : le ≤ mo) (c2 : mo ≤ 1000) (hAt : ∀ a ∈ l, 0 ≤ a.w.at_ ∧ a.w.at_ ≤ 562949953421312) (pl : List Int) : Calls Tryz.prog 105 #[.agg #[.int .i64 le, .int .i64 mo, .int .i64 nw, .bool on, .int .i64 ze, .int .i64 fi, .int .i64 hi, .int .i64 dn, .int .i64 sp, .int .i64 tr, .slice A n qc, .int .i64 la, .int .i64 tw, .int .i64 pd], .agg #[.int .i64 sq, .int .i64 ti, .bool mk, .int .u8 ty, .slice MA mn mc]] w (MeasR ⟨le, mo, nw, on, ze, fi, hi, dn, sp, tr, l.map TW.w, la, tw, pd⟩ ⟨sq, ti, mk, ty, pl⟩ A n qc w) := by
 cases on
 · by_cases h0 : n = 0
   · exact zhu le mo nw ze fi hi dn sp tr A l n qc la tw pd sq ti mk ty MA mn mc w hn hl hA n0 n1 t0 t1 r0 r1 s0 s1 c0 c1 c2 hAt pl h0
   · exact zhv le mo nw ze fi hi dn sp tr A l n qc la tw pd sq ti mk ty MA mn mc w hn hl hA n0 n1 t0 t1 r0 r1 s0 s1 c0 c1 c2 hAt pl (by omega)
 by_cases hlt : nw - ti / 8 < tr
 · by_cases hmk : mk = true
   rotate_left
   · exact zhh le mo nw  ze fi hi dn sp tr A l n qc la tw pd sq ti mk ty MA mn mc w hn hl hA n0 n1 t0 t1 r0 r1 s0 s1 c0 c1 c2 hAt pl (by simpa using hmk) hlt
   by_cases hsq : hi < sq
   rotate_left
   · exact zhi le mo nw  ze fi hi dn sp tr A l n qc la tw pd sq ti mk ty MA mn mc w hn hl hA n0 n1 t0 t1 r0 r1 s0 s1 c0 c1 c2 hAt pl hmk (by omega) hlt
   by_cases h0 : n = 0
   · exact zhj le mo nw  ze fi hi dn sp tr A l n qc la tw pd sq ti mk ty MA mn mc w hn hl hA n0 n1 t0 t1 r0 r1 s0 s1 c0 c1 c2 hAt pl hmk hsq h0 hlt
   · exact zhk le mo nw  ze fi hi dn sp tr A l n qc la tw pd sq ti mk ty MA mn mc w hn hl hA n0 n1 t0 t1 r0 r1 s0 s1 c0 c1 c2 hAt pl hmk hsq (by omega) hlt
 · replace hlt : tr ≤ nw - ti / 8 := by omega
   by_cases hmk : mk = true
   rotate_left
   · exact zhl le mo nw  ze fi hi dn sp tr A l n qc la tw pd sq ti mk ty MA mn mc w hn hl hA n0 n1 t0 t1 r0 r1 s0 s1 c0 c1 c2 hAt pl (by simpa using hmk) hlt
   by_cases hsq : hi < sq
   rotate_left
   · exact zhm le mo nw  ze fi hi dn sp tr A l n qc la tw pd sq ti mk ty MA mn mc w hn hl hA n0 n1 t0 t1 r0 r1 s0 s1 c0 c1 c2 hAt pl hmk (by omega) hlt
   by_cases h0 : n = 0
   · exact zhn le mo nw  ze fi hi dn sp tr A l n qc la tw pd sq ti mk ty MA mn mc w hn hl hA n0 n1 t0 t1 r0 r1 s0 s1 c0 c1 c2 hAt pl hmk hsq h0 hlt
   · exact zho le mo nw  ze fi hi dn sp tr A l n qc la tw pd sq ti mk ty MA mn mc w hn hl hA n0 n1 t0 t1 r0 r1 s0 s1 c0 c1 c2 hAt pl hmk hsq (by omega) hlt
end Go.Proofs.YtahbecinkciahaaGreat
namespace Go.Proofs.YtahbecinkciahaaGreat
open Go.RowKit
def Z14 : List Value := [.int .i64 0, .int .i64 0, .int .i64 0, .bool false, .int .i64 0, .int .i64 0, .int .i64 0, .int .i64 0, .int .i64 0, .int .i64 0, .slice none 0 0, .int .i64 0, .int .i64 0, .int .i64 0]
structure PSt (w W : World) (lo B : Nat) (cs ms : List Value) (A1 : Option Addr) (l1 : List TW) (A2 : Option Addr) (n2 c2 : Nat) (l2 : List TW) : Prop where
 bs : Blk W w.heap.size 40 cs.toArray
 bm : Blk W (w.heap.size + 1) 103 ms.toArray
 br : Blk W (w.heap.size + 1 + 1) 40 Z14.toArray
 u : Bel w W
 p1 : WtsIn W lo B A1 l1
 q2 : QOwn W B A2 n2 c2 l2
 lo1 : w.heap.size + 1 + 1 < lo
 lo2 : lo ≤ B
 hB : B ≤ W.heap.size
section
variable {w W W' : World} {lo B n2 c2 : Nat} {cs ms : List Value} {A1 A2 : Option Addr} {l1 l2 : List TW}
theorem PSt.later (h : PSt w W lo B cs ms A1 l1 A2 n2 c2 l2) (hb : Below W.heap.size W W') : PSt w W' lo B cs ms A1 l1 A2 n2 c2 l2 :=
 ⟨h.bs.later hb, h.bm.later hb, h.br.later hb, h.u.later hb, h.p1.below hb h.hB, h.q2.below hb, h.lo1, h.lo2, Nat.le_trans h.hB hb.size⟩
theorem PSt.set (h : PSt w W lo B cs ms A1 l1 A2 n2 c2 l2) (i : Nat) (v : Value) : PSt w (W.setCell ⟨w.heap.size, i, none⟩ v) lo B (cs.set i v) ms A1 l1 A2 n2 c2 l2 := by
 have h1 := h.lo1
 have h2 := h.lo2
 refine ⟨?_, h.bm.far (by simp) _, h.br.far (by simp; omega) _, zai h.u (Nat.le_refl _) _, h.p1.setCell (by simp; omega) _, h.q2.setCell (by simp; omega) _, h.lo1, h.lo2, by simpa [World.setCell] using h.hB⟩
 have := h.bs.set_ i v
 simpa using this
theorem PSt.row (h : PSt w W lo B cs ms A1 l1 A2 n2 c2 l2) (vs : List Value) (hl : cs.length = vs.length) : PSt w (setRow w.heap.size W 0 vs) lo B vs ms A1 l1 A2 n2 c2 l2 := by
 have h1 := h.lo1
 have h2 := h.lo2
 exact ⟨h.bs.setRow vs (by simpa using hl), h.bm.farRow (by omega) vs W 0, h.br.farRow (by omega) vs W 0, Go.Proofs.YtahbecinkciahaaGreat.below_setRow (Nat.le_refl _) vs W 0 h.u, WtsIn.setRow (by omega) vs W 0 h.p1, QOwn.setRow (by omega) vs W 0 h.q2, h.lo1, h.lo2, by rw [zas]; exact h.hB⟩
theorem PSt.fin (h : PSt w W lo B cs ms A1 l1 A2 n2 c2 l2) (vs : List Value) (hl : vs.length = 14) : Blk (setRow (w.heap.size + 1 + 1) W 0 vs) (w.heap.size + 1 + 1) 40 vs.toArray ∧ Wts (setRow (w.heap.size + 1 + 1) W 0 vs) (setRow (w.heap.size + 1 + 1) W 0 vs).heap.size A1 l1 ∧ Wts (setRow (w.heap.size + 1 + 1) W 0 vs) (setRow (w.heap.size + 1 + 1) W 0 vs).heap.size A2 l2 ∧ l2.length = n2 ∧ n2 ≤ c2 ∧ c2 ≤ maxLen ∧ Below w.heap.size w (setRow (w.heap.size + 1 + 1) W 0 vs) := by
 have h1 := h.lo1
 have h2 := h.lo2
 have q := QOwn.setRow (g := w.heap.size + 1 + 1) (by omega) vs W 0 h.q2
 exact ⟨h.br.setRow vs (by simp [Z14, hl]), (WtsIn.setRow (g := w.heap.size + 1 + 1) (by omega) vs W 0 h.p1).rows.more (by rw [zas]; exact h.hB), q.wts, q.len, q.own.cap, Owns.capm q.own, Go.Proofs.YtahbecinkciahaaGreat.below_setRow (by omega) vs W 0 h.u⟩
theorem PSt.finW (h : PSt w W lo B cs ms A1 l1 A2 n2 c2 l2) (vs : List Value) (hl : vs.length = 14) : Blk (setRow (w.heap.size + 1 + 1) W 0 vs) (w.heap.size + 1 + 1) 40 vs.toArray ∧ WtsIn (setRow (w.heap.size + 1 + 1) W 0 vs) w.heap.size (setRow (w.heap.size + 1 + 1) W 0 vs).heap.size A1 l1 ∧ WtsIn (setRow (w.heap.size + 1 + 1) W 0 vs) w.heap.size (setRow (w.heap.size + 1 + 1) W 0 vs).heap.size A2 l2 ∧ l2.length = n2 ∧ n2 ≤ c2 ∧ c2 ≤ maxLen ∧ Below w.heap.size w (setRow (w.heap.size + 1 + 1) W 0 vs) := by
 have h1 := h.lo1
 have h2 := h.lo2
 have q := QOwn.setRow (g := w.heap.size + 1 + 1) (by omega) vs W 0 h.q2
 exact ⟨h.br.setRow vs (by simp [Z14, hl]), ((WtsIn.setRow (g := w.heap.size + 1 + 1) (by omega) vs W 0 h.p1).more (by rw [zas]; exact h.hB)).less (by omega), q.wtsIn.less (by omega), q.len, q.own.cap, Owns.capm q.own, Go.Proofs.YtahbecinkciahaaGreat.below_setRow (by omega) vs W 0 h.u⟩
theorem PSt.ins {A3 : Option Addr} {n3 c3 : Nat} {l3 : List TW} (h : PSt w W lo B cs ms A1 l1 A2 n2 c2 l2) (hb : Below B W W') (hq : QOwn W' B A3 n3 c3 l3) : PSt w W' lo B cs ms A1 l1 A3 n3 c3 l3 := by
 have h1 := h.lo1
 have h2 := h.lo2
 exact ⟨h.bs.below hb (by omega), h.bm.below hb (by omega), h.br.below hb (by omega), h.u.trans (hb.mono (by omega)), h.p1.below hb (Nat.le_refl _), hq, h.lo1, h.lo2, Nat.le_trans h.hB hb.size⟩
end
end Go.Proofs.YtahbecinkciahaaGreat
namespace Go.Proofs.YtahbecinkciahaaGreat
attribute [local go_sem ↓] zac zad
attribute [local go_sem] zab zag
open Go.RowKit
theorem tk1 {P : Program} {md : _} {ops : Array Oper} {Q : Exit → Act → World → Prop} {S : World → Prop} {i : Nat} {oi : Oper} {v : Value} {fuel : Nat} {listed : Array Bool} {a : Act} {w : World} (hi : ops[i]? = some oi)
 (hy : YieldsIf P ops S oi v a) (hS : S w) (h : wpAnyH P md ops Q S fuel (listed.setIfInBounds i true) (a.put oi.dst v) w)
 (hs : Region.noSelect ops = true := by kernel_rfl) (hf : Region.free md ops listed i = true := by kernel_rfl) (hr : (Region.ready md ops listed).contains i = true := by kernel_rfl)
 (hQ : ∀ c a w, Q (.panic c) (a.put oi.dst v) w → Q (.panic c) a w := by exact fun _ _ _ h => h) : wpAnyH P md ops Q S (fuel + 1) listed a w := wpAnyH_take hi hs hf hr hQ hy hS h
theorem tkN {P : Program} {md : _} {ops : Array Oper} {Q : Exit → Act → World → Prop} {S : World → Prop} {i : Nat} {oi : Oper} {v : Value} {fuel : Nat} {listed : Array Bool} {a : Act} {w : World} (N : Nat) (hN : i + (fuel + 1) = N) (hi : ops[i]? = some oi)
 (hy : YieldsIf P ops S oi v a) (hS : S w) (h : wpAnyH P md ops Q S fuel (listed.setIfInBounds i true) (a.put oi.dst v) w)
 (hs : Region.noSelect ops = true := by kernel_rfl) (hf : Region.free md ops listed i = true := by kernel_rfl) (hr : (Region.ready md ops listed).contains i = true := by kernel_rfl)
 (hQ : ∀ c a w, Q (.panic c) (a.put oi.dst v) w → Q (.panic c) a w := by exact fun _ _ _ h => h) : wpAnyH P md ops Q S (fuel + 1) listed a w := wpAnyH_take hi hs hf hr hQ hy hS h
theorem Blk.c14 {W : World} {g : Nat} {t : TypeId} {v0 v1 v2 v3 v4 v5 v6 v7 v8 v9 v10 v11 v12 v13 : Value} (h : Blk W g t #[v0, v1, v2, v3, v4, v5, v6, v7, v8, v9, v10, v11, v12, v13]) : W.cell? ⟨g, 0, none⟩ = some v0 ∧ W.cell? ⟨g, 1, none⟩ = some v1 ∧ W.cell? ⟨g, 2, none⟩ = some v2 ∧ W.cell? ⟨g, 3, none⟩ = some v3 ∧ W.cell? ⟨g, 4, none⟩ = some v4 ∧ W.cell? ⟨g, 5, none⟩ = some v5 ∧ W.cell? ⟨g, 6, none⟩ = some v6 ∧ W.cell? ⟨g, 7, none⟩ = some v7 ∧ W.cell? ⟨g, 8, none⟩ = some v8 ∧ W.cell? ⟨g, 9, none⟩ = some v9 ∧ W.cell? ⟨g, 10, none⟩ = some v10 ∧ W.cell? ⟨g, 11, none⟩ = some v11 ∧ W.cell? ⟨g, 12, none⟩ = some v12 ∧ W.cell? ⟨g, 13, none⟩ = some v13 := ⟨h.at 0 _ rfl, h.at 1 _ rfl, h.at 2 _ rfl, h.at 3 _ rfl, h.at 4 _ rfl, h.at 5 _ rfl, h.at 6 _ rfl, h.at 7 _ rfl, h.at 8 _ rfl, h.at 9 _ rfl, h.at 10 _ rfl, h.at 11 _ rfl, h.at 12 _ rfl, h.at 13 _ rfl⟩
theorem Blk.c5 {W : World} {g : Nat} {t : TypeId} {v0 v1 v2 v3 v4 : Value} (h : Blk W g t #[v0, v1, v2, v3, v4]) : W.cell? ⟨g, 0, none⟩ = some v0 ∧ W.cell? ⟨g, 1, none⟩ = some v1 ∧ W.cell? ⟨g, 2, none⟩ = some v2 ∧ W.cell? ⟨g, 3, none⟩ = some v3 ∧ W.cell? ⟨g, 4, none⟩ = some v4 := ⟨h.at 0 _ rfl, h.at 1 _ rfl, h.at 2 _ rfl, h.at 3 _ rfl, h.at 4 _ rfl⟩
theorem zbn (s : Jb.Jt) (m : Jb.Md) (now : Int) (h : s.ok) (hm : m.ok) (h1 : s.now ≤ now) (h2 : now ≤ 281474976710656) :
 (-1125899906842624 ≤ (Jb.meas (Jb.run0 s now) m).zero ∧ (Jb.meas (Jb.run0 s now) m).zero ≤ 1125899906842624) ∧ (-281474976710656 ≤ (Jb.meas (Jb.run0 s now) m).first ∧ (Jb.meas (Jb.run0 s now) m).first ≤ 281474976710656) ∧ Jb.okQ now s.high (Jb.left now s.q) := by
 have h0 : ({ s with played := 0 } : Jb.Jt).ok := Jb.cnt_ok s h s.late s.twice 0 h.2.2.1.1 h.2.2.1.2.1 (by simp)
 have hd := znq now s.q
 have hq := ((Jb.okQ_iff _ _ _).1 h.2.2.2.2).1
 have hr := Jb.run0_ok { s with played := 0 } now h0 h1 h2 (by show (0 : Int) + (Jb.due now s.q).length ≤ _; omega)
 have hM := Jb.meas_ok _ m hr hm
 exact ⟨hM.1.2.1, hM.1.2.2.2.1, hr.2.2.2.2⟩
theorem zle (s : Jb.Jt) (m : Jb.Md) (h0 : (s.q.any fun w => w.m.sq == m.sq) = true) : Jb.put0 s m = ({ s with twice := s.twice + 1 }, 3) := by unfold Jb.put0; rw [if_pos h0]
theorem zne (s : Jb.Jt) (m : Jb.Md) (h0 : (s.q.any fun w => w.m.sq == m.sq) = false) (h1 : s.on = true ∧ m.sq ≤ s.done) : Jb.put0 s m = ({ s with late := s.late + 1 }, 2) := by unfold Jb.put0; rw [if_neg (by rw [h0]; simp), if_pos h1]
theorem zhp (s : Jb.Jt) (m : Jb.Md) (h0 : (s.q.any fun w => w.m.sq == m.sq) = false) (h1 : ¬(s.on = true ∧ m.sq ≤ s.done)) (h2 : 200 ≤ s.q.length) : Jb.put0 s m = (s, 4) := by unfold Jb.put0; rw [if_neg (by rw [h0]; simp), if_neg h1, if_pos h2]
theorem zco (s : Jb.Jt) (m : Jb.Md) (h0 : (s.q.any fun w => w.m.sq == m.sq) = false) (h1 : ¬(s.on = true ∧ m.sq ≤ s.done)) (h2 : ¬200 ≤ s.q.length) (s2 : Jb.Jt) (AT : Int) (h3 : Jb.meas s m = s2) (h4 : s2.zero + (m.ti - s2.first) / 8 = AT) :
 Jb.put0 s m = if AT ≤ s.now then ({ s2 with late := s2.late + 1 }, 2) else if s.now + 120000 < AT then (s2, 5) else ({ s2 with q := Jb.ins s2.q ⟨AT, m⟩ }, 1) := by
 unfold Jb.put0
 rw [if_neg (by rw [h0]; simp), if_neg h1, if_neg h2]
 simp only [h3]
 unfold Jb.ptime
 rw [h4]
def JPutR (s : Jb.Jt) (now : Int) (m : Jb.Md) (w : World) (e : Ending) (w' : World) : Prop :=
 ∃ (A1 : Option Addr) (c1 : Nat) (l1 : List TW) (A2 : Option Addr) (c2 : Nat) (l2 : List TW), e = .returned (.tuple #[JV (Jb.put s now m).1 A2 l2.length c2, .slice A1 l1.length c1, .int .u8 (Jb.put s now m).2.2.1, .int .u8 (Jb.put s now m).2.2.2]) ∧ l1.map TW.w = (Jb.put s now m).2.1 ∧ l2.map TW.w = (Jb.put s now m).1.q ∧ Wts w' w'.heap.size A1 l1 ∧ Wts w' w'.heap.size A2 l2 ∧ l2.length ≤ c2 ∧ c2 ≤ maxLen ∧ Below w.heap.size w w' ∧ l1.length ≤ c1 ∧ c1 ≤ maxLen
def JPutW (s : Jb.Jt) (now : Int) (m : Jb.Md) (w : World) (e : Ending) (w' : World) : Prop :=
 ∃ (A1 : Option Addr) (c1 : Nat) (l1 : List TW) (A2 : Option Addr) (c2 : Nat) (l2 : List TW), e = .returned (.tuple #[JV (Jb.put s now m).1 A2 l2.length c2, .slice A1 l1.length c1, .int .u8 (Jb.put s now m).2.2.1, .int .u8 (Jb.put s now m).2.2.2]) ∧ l1.map TW.w = (Jb.put s now m).2.1 ∧ l2.map TW.w = (Jb.put s now m).1.q ∧ WtsIn w' w.heap.size w'.heap.size A1 l1 ∧ WtsIn w' w.heap.size w'.heap.size A2 l2 ∧ l2.length ≤ c2 ∧ c2 ≤ maxLen ∧ Below w.heap.size w w' ∧ l1.length ≤ c1 ∧ c1 ≤ maxLen
theorem JPutW.r {s : Jb.Jt} {now : Int} {m : Jb.Md} {w w' : World} {e : Ending} (h : JPutW s now m w e w') : JPutR s now m w e w' := by
 obtain ⟨A1, c1, l1, A2, c2, l2, h1, h2, h3, h4, h5, h6⟩ := h
 exact ⟨A1, c1, l1, A2, c2, l2, h1, h2, h3, h4.rows, h5.rows, h6⟩
end Go.Proofs.YtahbecinkciahaaGreat

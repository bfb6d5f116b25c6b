/- Layer 30: measure, while the buffer runs. -/
import Derived.Test.YtnaafjdnmbajjaaJtInsAQ
import Derived.Test.YtnaafjdnmbajjaaJtMeas2
namespace Go.Proofs.Ytnaafjdnmbajjaa
open Go.RowKit
set_option linter.unusedVariables false
set_option linter.unusedSimpArgs false
attribute [local go_sem ↓] run_min_plain run_max_plain
attribute [local go_sem] setCell_drewN alloc_drewN
set_option maxRecDepth 100000 in
set_option maxHeartbeats 12800000 in
theorem measure_ge_n (le mo nw : Int) (ze fi hi dn sp tr : Int) (A : Option Addr) (l : List TW) (n qc : Nat) (la tw pd : Int) (sq ti : Int) (mk : Bool) (ty : Int) (MA : Option Addr) (mn mc : Nat) (w : World) (hn : l.length = n) (hl : n ≤ 200) (hA : Wts w w.heap.size A l) (n0 : 0 ≤ nw) (n1 : nw ≤ 281474976710656) (t0 : -281474976710656 ≤ ti) (t1 : ti ≤ 281474976710656) (r0 : -1125899906842624 ≤ tr) (r1 : tr ≤ 1125899906842624) (s0 : 0 ≤ sp) (s1 : sp ≤ 72057594037927936) (c0 : 1 ≤ le) (c1 : le ≤ mo) (c2 : mo ≤ 1000) (hAt : ∀ a ∈ l, 0 ≤ a.w.at_ ∧ a.w.at_ ≤ 562949953421312) (pl : List Int) (hmk : mk = false) (hlt : tr ≤ nw - ti / 8) : Calls Try.prog 32 #[.agg #[.int .i64 le, .int .i64 mo, .int .i64 nw, .bool true, .int .i64 ze, .int .i64 fi, .int .i64 hi, .int .i64 dn, .int .i64 sp, .int .i64 tr, .slice A n qc, .int .i64 la, .int .i64 tw, .int .i64 pd], .agg #[.int .i64 sq, .int .i64 ti, .bool mk, .int .u8 ty, .slice MA mn mc]] w (MeasR ⟨le, mo, nw, true, ze, fi, hi, dn, sp, tr, l.map TW.w, la, tw, pd⟩ ⟨sq, ti, mk, ty, pl⟩ A n qc w) := by
  subst hn
  obtain ⟨y, hy⟩ : ∃ y, y = ti / 8 := ⟨_, rfl⟩
  have k1 := Lib.hid fun W => eighth_any ti W (by omega) (by omega)
  rw [← hy] at k1
  have hyb : -35184372088832 ≤ y ∧ y ≤ 35184372088832 := by omega
  obtain ⟨y0, y1⟩ := hyb
  obtain ⟨T, hT⟩ : ∃ T, T = nw - y := ⟨_, rfl⟩
  have e1 : nw - y = T := hT.symm
  have ew : IntKind.i64.wrap (nw - y) = T := by rw [i64_small _ (by omega) (by omega)]; exact e1
  have HT := Lib.hid hT
  have HY := Lib.hid hy
  have T0 : -1000000000000000 ≤ T := by omega
  have T1 : T ≤ 1000000000000000 := by omega
  have HA := Lib.hid hA
  have HAT := Lib.hid hAt
  have hd : tr ≤ T := by omega
  have sp0 : 0 ≤ (sp + (T - tr - (sp + 8) / 16)) := by omega
  have sp1 : (sp + (T - tr - (sp + 8) / 16)) ≤ 9000000000000000000 := by omega
  subst hmk
  clear hT hy hA hAt hlt
  go_enter Try.func32, Try.ntmps32
  go_wp2_with fail
  go_quiet ((go_at_call 50; exact Calls.quiet_of_same ((k1.out _).mono fun _ _ h => ⟨h.1, h.2.symm⟩)))
  go_wp2_with fail
  have hSP : sp + max (T - tr) (tr - T) - (sp + 8) / 16 = (sp + (T - tr - (sp + 8) / 16)) := by omega
  have BF : Blk ((((w.alloc (.cells #[.int .i64 le, .int .i64 mo, .int .i64 nw, .bool true, .int .i64 ze, .int .i64 fi, .int .i64 (max hi sq), .int .i64 dn, .int .i64 (sp + (T - tr - (sp + 8) / 16)), .int .i64 T, .slice A l.length qc, .int .i64 la, .int .i64 tw, .int .i64 pd] 26)).alloc (.cells #[.int .i64 sq, .int .i64 ti, .bool false, .int .u8 ty, .slice MA mn mc] 29)).alloc (.cells #[.int .i64 le, .int .i64 mo, .int .i64 nw, .bool true, .int .i64 ze, .int .i64 fi, .int .i64 (max hi sq), .int .i64 dn, .int .i64 (sp + (T - tr - (sp + 8) / 16)), .int .i64 T, .slice A l.length qc, .int .i64 la, .int .i64 tw, .int .i64 pd] 26)).drewN nq) (w.heap.size + 1 + 1) 26 #[.int .i64 le, .int .i64 mo, .int .i64 nw, .bool true, .int .i64 ze, .int .i64 fi, .int .i64 (max hi sq), .int .i64 dn, .int .i64 (sp + (T - tr - (sp + 8) / 16)), .int .i64 T, .slice A l.length qc, .int .i64 la, .int .i64 tw, .int .i64 pd] := by
    have h9 := Blk.new ((w.alloc (.cells #[.int .i64 le, .int .i64 mo, .int .i64 nw, .bool true, .int .i64 ze, .int .i64 fi, .int .i64 (max hi sq), .int .i64 dn, .int .i64 (sp + (T - tr - (sp + 8) / 16)), .int .i64 T, .slice A l.length qc, .int .i64 la, .int .i64 tw, .int .i64 pd] 26)).alloc (.cells #[.int .i64 sq, .int .i64 ti, .bool false, .int .u8 ty, .slice MA mn mc] 29)) 26 #[.int .i64 le, .int .i64 mo, .int .i64 nw, .bool true, .int .i64 ze, .int .i64 fi, .int .i64 (max hi sq), .int .i64 dn, .int .i64 (sp + (T - tr - (sp + 8) / 16)), .int .i64 T, .slice A l.length qc, .int .i64 la, .int .i64 tw, .int .i64 pd]
    rw [size_alloc2] at h9
    exact h9.drewN _
  have hM : Jb.meas ⟨le, mo, nw, true, ze, fi, hi, dn, sp, tr, l.map TW.w, la, tw, pd⟩ ⟨sq, ti, false, ty, pl⟩ = ⟨le, mo, nw, true, ze, fi, max hi sq, dn, (sp + (T - tr - (sp + 8) / 16)), T, l.map TW.w, la, tw, pd⟩ := by
    unfold Jb.meas
    have hb : ¬(true = false ∨ (false = true ∧ hi < sq)) := by simp
    simp only [← HY.out, ← HT.out, if_true, hSP, if_neg hb]
  refine bodyPost_ret (v := .agg #[.int .i64 le, .int .i64 mo, .int .i64 nw, .bool true, .int .i64 ze, .int .i64 fi, .int .i64 (max hi sq), .int .i64 dn, .int .i64 (sp + (T - tr - (sp + 8) / 16)), .int .i64 T, .slice A l.length qc, .int .i64 la, .int .i64 tw, .int .i64 pd]) (res_c Try.results32 rfl (run_loadVar_row (P := Try.prog) _ _ _ _ _ _ _ BF Try.underlying26 rfl (by kernel_rfl))) rfl ⟨by rw [hM]; rfl, ?_⟩
  exact Bel.drewN (((((Bel.refl w).push _).push _).push _)) _
set_option maxRecDepth 100000 in
set_option maxHeartbeats 12800000 in
theorem measure_ge_o (le mo nw : Int) (ze fi hi dn sp tr : Int) (A : Option Addr) (l : List TW) (n qc : Nat) (la tw pd : Int) (sq ti : Int) (mk : Bool) (ty : Int) (MA : Option Addr) (mn mc : Nat) (w : World) (hn : l.length = n) (hl : n ≤ 200) (hA : Wts w w.heap.size A l) (n0 : 0 ≤ nw) (n1 : nw ≤ 281474976710656) (t0 : -281474976710656 ≤ ti) (t1 : ti ≤ 281474976710656) (r0 : -1125899906842624 ≤ tr) (r1 : tr ≤ 1125899906842624) (s0 : 0 ≤ sp) (s1 : sp ≤ 72057594037927936) (c0 : 1 ≤ le) (c1 : le ≤ mo) (c2 : mo ≤ 1000) (hAt : ∀ a ∈ l, 0 ≤ a.w.at_ ∧ a.w.at_ ≤ 562949953421312) (pl : List Int) (hmk : mk = true) (hsq : sq ≤ hi) (hlt : tr ≤ nw - ti / 8) : Calls Try.prog 32 #[.agg #[.int .i64 le, .int .i64 mo, .int .i64 nw, .bool true, .int .i64 ze, .int .i64 fi, .int .i64 hi, .int .i64 dn, .int .i64 sp, .int .i64 tr, .slice A n qc, .int .i64 la, .int .i64 tw, .int .i64 pd], .agg #[.int .i64 sq, .int .i64 ti, .bool mk, .int .u8 ty, .slice MA mn mc]] w (MeasR ⟨le, mo, nw, true, ze, fi, hi, dn, sp, tr, l.map TW.w, la, tw, pd⟩ ⟨sq, ti, mk, ty, pl⟩ A n qc w) := by
  subst hn
  obtain ⟨y, hy⟩ : ∃ y, y = ti / 8 := ⟨_, rfl⟩
  have k1 := Lib.hid fun W => eighth_any ti W (by omega) (by omega)
  rw [← hy] at k1
  have hyb : -35184372088832 ≤ y ∧ y ≤ 35184372088832 := by omega
  obtain ⟨y0, y1⟩ := hyb
  obtain ⟨T, hT⟩ : ∃ T, T = nw - y := ⟨_, rfl⟩
  have e1 : nw - y = T := hT.symm
  have ew : IntKind.i64.wrap (nw - y) = T := by rw [i64_small _ (by omega) (by omega)]; exact e1
  have HT := Lib.hid hT
  have HY := Lib.hid hy
  have T0 : -1000000000000000 ≤ T := by omega
  have T1 : T ≤ 1000000000000000 := by omega
  have HA := Lib.hid hA
  have HAT := Lib.hid hAt
  have hd : tr ≤ T := by omega
  have sp0 : 0 ≤ (sp + (T - tr - (sp + 8) / 16)) := by omega
  have sp1 : (sp + (T - tr - (sp + 8) / 16)) ≤ 9000000000000000000 := by omega
  subst hmk
  have HSQ := Lib.hid hsq
  clear hT hy hA hAt hlt
  go_enter Try.func32, Try.ntmps32
  go_wp2_with fail
  go_quiet ((go_at_call 50; exact Calls.quiet_of_same ((k1.out _).mono fun _ _ h => ⟨h.1, h.2.symm⟩)))
  go_wp2_with fail
  have hSP : sp + max (T - tr) (tr - T) - (sp + 8) / 16 = (sp + (T - tr - (sp + 8) / 16)) := by omega
  have BF : Blk ((((w.alloc (.cells #[.int .i64 le, .int .i64 mo, .int .i64 nw, .bool true, .int .i64 ze, .int .i64 fi, .int .i64 (max hi sq), .int .i64 dn, .int .i64 (sp + (T - tr - (sp + 8) / 16)), .int .i64 T, .slice A l.length qc, .int .i64 la, .int .i64 tw, .int .i64 pd] 26)).alloc (.cells #[.int .i64 sq, .int .i64 ti, .bool true, .int .u8 ty, .slice MA mn mc] 29)).alloc (.cells #[.int .i64 le, .int .i64 mo, .int .i64 nw, .bool true, .int .i64 ze, .int .i64 fi, .int .i64 (max hi sq), .int .i64 dn, .int .i64 (sp + (T - tr - (sp + 8) / 16)), .int .i64 T, .slice A l.length qc, .int .i64 la, .int .i64 tw, .int .i64 pd] 26)).drewN nq) (w.heap.size + 1 + 1) 26 #[.int .i64 le, .int .i64 mo, .int .i64 nw, .bool true, .int .i64 ze, .int .i64 fi, .int .i64 (max hi sq), .int .i64 dn, .int .i64 (sp + (T - tr - (sp + 8) / 16)), .int .i64 T, .slice A l.length qc, .int .i64 la, .int .i64 tw, .int .i64 pd] := by
    have h9 := Blk.new ((w.alloc (.cells #[.int .i64 le, .int .i64 mo, .int .i64 nw, .bool true, .int .i64 ze, .int .i64 fi, .int .i64 (max hi sq), .int .i64 dn, .int .i64 (sp + (T - tr - (sp + 8) / 16)), .int .i64 T, .slice A l.length qc, .int .i64 la, .int .i64 tw, .int .i64 pd] 26)).alloc (.cells #[.int .i64 sq, .int .i64 ti, .bool true, .int .u8 ty, .slice MA mn mc] 29)) 26 #[.int .i64 le, .int .i64 mo, .int .i64 nw, .bool true, .int .i64 ze, .int .i64 fi, .int .i64 (max hi sq), .int .i64 dn, .int .i64 (sp + (T - tr - (sp + 8) / 16)), .int .i64 T, .slice A l.length qc, .int .i64 la, .int .i64 tw, .int .i64 pd]
    rw [size_alloc2] at h9
    exact h9.drewN _
  have hM : Jb.meas ⟨le, mo, nw, true, ze, fi, hi, dn, sp, tr, l.map TW.w, la, tw, pd⟩ ⟨sq, ti, true, ty, pl⟩ = ⟨le, mo, nw, true, ze, fi, max hi sq, dn, (sp + (T - tr - (sp + 8) / 16)), T, l.map TW.w, la, tw, pd⟩ := by
    unfold Jb.meas
    have hb : ¬(true = false ∨ (True ∧ hi < sq)) := by simp; exact HSQ.out
    simp only [← HY.out, ← HT.out, if_true, hSP, if_neg hb]
  refine bodyPost_ret (v := .agg #[.int .i64 le, .int .i64 mo, .int .i64 nw, .bool true, .int .i64 ze, .int .i64 fi, .int .i64 (max hi sq), .int .i64 dn, .int .i64 (sp + (T - tr - (sp + 8) / 16)), .int .i64 T, .slice A l.length qc, .int .i64 la, .int .i64 tw, .int .i64 pd]) (res_c Try.results32 rfl (run_loadVar_row (P := Try.prog) _ _ _ _ _ _ _ BF Try.underlying26 rfl (by kernel_rfl))) rfl ⟨by rw [hM]; rfl, ?_⟩
  exact Bel.drewN (((((Bel.refl w).push _).push _).push _)) _
set_option maxRecDepth 100000 in
set_option maxHeartbeats 12800000 in
theorem measure_ge_0 (le mo nw : Int) (ze fi hi dn sp tr : Int) (A : Option Addr) (l : List TW) (n qc : Nat) (la tw pd : Int) (sq ti : Int) (mk : Bool) (ty : Int) (MA : Option Addr) (mn mc : Nat) (w : World) (hn : l.length = n) (hl : n ≤ 200) (hA : Wts w w.heap.size A l) (n0 : 0 ≤ nw) (n1 : nw ≤ 281474976710656) (t0 : -281474976710656 ≤ ti) (t1 : ti ≤ 281474976710656) (r0 : -1125899906842624 ≤ tr) (r1 : tr ≤ 1125899906842624) (s0 : 0 ≤ sp) (s1 : sp ≤ 72057594037927936) (c0 : 1 ≤ le) (c1 : le ≤ mo) (c2 : mo ≤ 1000) (hAt : ∀ a ∈ l, 0 ≤ a.w.at_ ∧ a.w.at_ ≤ 562949953421312) (pl : List Int) (hmk : mk = true) (hsq : hi < sq) (h0 : n = 0) (hlt : tr ≤ nw - ti / 8) : Calls Try.prog 32 #[.agg #[.int .i64 le, .int .i64 mo, .int .i64 nw, .bool true, .int .i64 ze, .int .i64 fi, .int .i64 hi, .int .i64 dn, .int .i64 sp, .int .i64 tr, .slice A n qc, .int .i64 la, .int .i64 tw, .int .i64 pd], .agg #[.int .i64 sq, .int .i64 ti, .bool mk, .int .u8 ty, .slice MA mn mc]] w (MeasR ⟨le, mo, nw, true, ze, fi, hi, dn, sp, tr, l.map TW.w, la, tw, pd⟩ ⟨sq, ti, mk, ty, pl⟩ A n qc w) := by
  obtain rfl : l = [] := List.eq_nil_of_length_eq_zero (by omega)
  subst h0
  obtain ⟨y, hy⟩ : ∃ y, y = ti / 8 := ⟨_, rfl⟩
  have k1 := Lib.hid fun W => eighth_any ti W (by omega) (by omega)
  rw [← hy] at k1
  have hyb : -35184372088832 ≤ y ∧ y ≤ 35184372088832 := by omega
  obtain ⟨y0, y1⟩ := hyb
  obtain ⟨T, hT⟩ : ∃ T, T = nw - y := ⟨_, rfl⟩
  have e1 : nw - y = T := hT.symm
  have ew : IntKind.i64.wrap (nw - y) = T := by rw [i64_small _ (by omega) (by omega)]; exact e1
  have HT := Lib.hid hT
  have HY := Lib.hid hy
  have T0 : -1000000000000000 ≤ T := by omega
  have T1 : T ≤ 1000000000000000 := by omega
  have HA := Lib.hid hA
  have HAT := Lib.hid hAt
  have hd : tr ≤ T := by omega
  have sp0 : 0 ≤ (sp + (T - tr - (sp + 8) / 16)) := by omega
  have sp1 : (sp + (T - tr - (sp + 8) / 16)) ≤ 9000000000000000000 := by omega
  subst hmk
  have HSQ := Lib.hid hsq
  clear hT hy hA hAt hlt
  go_enter Try.func32, Try.ntmps32
  go_wp2_with fail
  go_quiet ((go_at_call 50; exact Calls.quiet_of_same ((k1.out _).mono fun _ _ h => ⟨h.1, h.2.symm⟩)))
  go_wp2_with fail
  have hSP : sp + max (T - tr) (tr - T) - (sp + 8) / 16 = (sp + (T - tr - (sp + 8) / 16)) := by omega
  have BF : Blk ((((w.alloc (.cells #[.int .i64 le, .int .i64 mo, .int .i64 nw, .bool true, .int .i64 (nw + min (le + (sp + (T - tr - (sp + 8) / 16)) / 4) mo), .int .i64 ti, .int .i64 (max hi sq), .int .i64 dn, .int .i64 (sp + (T - tr - (sp + 8) / 16)), .int .i64 T, .slice A 0 qc, .int .i64 la, .int .i64 tw, .int .i64 pd] 26)).alloc (.cells #[.int .i64 sq, .int .i64 ti, .bool true, .int .u8 ty, .slice MA mn mc] 29)).alloc (.cells #[.int .i64 le, .int .i64 mo, .int .i64 nw, .bool true, .int .i64 (nw + min (le + (sp + (T - tr - (sp + 8) / 16)) / 4) mo), .int .i64 ti, .int .i64 (max hi sq), .int .i64 dn, .int .i64 (sp + (T - tr - (sp + 8) / 16)), .int .i64 T, .slice A 0 qc, .int .i64 la, .int .i64 tw, .int .i64 pd] 26)).drewN nq) (w.heap.size + 1 + 1) 26 #[.int .i64 le, .int .i64 mo, .int .i64 nw, .bool true, .int .i64 (nw + min (le + (sp + (T - tr - (sp + 8) / 16)) / 4) mo), .int .i64 ti, .int .i64 (max hi sq), .int .i64 dn, .int .i64 (sp + (T - tr - (sp + 8) / 16)), .int .i64 T, .slice A 0 qc, .int .i64 la, .int .i64 tw, .int .i64 pd] := by
    have h9 := Blk.new ((w.alloc (.cells #[.int .i64 le, .int .i64 mo, .int .i64 nw, .bool true, .int .i64 (nw + min (le + (sp + (T - tr - (sp + 8) / 16)) / 4) mo), .int .i64 ti, .int .i64 (max hi sq), .int .i64 dn, .int .i64 (sp + (T - tr - (sp + 8) / 16)), .int .i64 T, .slice A 0 qc, .int .i64 la, .int .i64 tw, .int .i64 pd] 26)).alloc (.cells #[.int .i64 sq, .int .i64 ti, .bool true, .int .u8 ty, .slice MA mn mc] 29)) 26 #[.int .i64 le, .int .i64 mo, .int .i64 nw, .bool true, .int .i64 (nw + min (le + (sp + (T - tr - (sp + 8) / 16)) / 4) mo), .int .i64 ti, .int .i64 (max hi sq), .int .i64 dn, .int .i64 (sp + (T - tr - (sp + 8) / 16)), .int .i64 T, .slice A 0 qc, .int .i64 la, .int .i64 tw, .int .i64 pd]
    rw [size_alloc2] at h9
    exact h9.drewN _
  have hM : Jb.meas ⟨le, mo, nw, true, ze, fi, hi, dn, sp, tr, [].map TW.w, la, tw, pd⟩ ⟨sq, ti, true, ty, pl⟩ = ⟨le, mo, nw, true, (nw + min (le + (sp + (T - tr - (sp + 8) / 16)) / 4) mo), ti, max hi sq, dn, (sp + (T - tr - (sp + 8) / 16)), T, [], la, tw, pd⟩ := by
    unfold Jb.meas
    have hb : (true = false ∨ (True ∧ hi < sq)) := Or.inr ⟨trivial, HSQ.out⟩
    simp only [← HY.out, ← HT.out, if_true, hSP, if_pos hb]
    rfl
  refine bodyPost_ret (v := .agg #[.int .i64 le, .int .i64 mo, .int .i64 nw, .bool true, .int .i64 (nw + min (le + (sp + (T - tr - (sp + 8) / 16)) / 4) mo), .int .i64 ti, .int .i64 (max hi sq), .int .i64 dn, .int .i64 (sp + (T - tr - (sp + 8) / 16)), .int .i64 T, .slice A 0 qc, .int .i64 la, .int .i64 tw, .int .i64 pd]) (res_c Try.results32 rfl (run_loadVar_row (P := Try.prog) _ _ _ _ _ _ _ BF Try.underlying26 rfl (by kernel_rfl))) rfl ⟨by rw [hM]; rfl, ?_⟩
  exact Bel.drewN (((((Bel.refl w).push _).push _).push _)) _
set_option maxRecDepth 100000 in
set_option maxHeartbeats 12800000 in
theorem measure_ge_1 (le mo nw : Int) (ze fi hi dn sp tr : Int) (A : Option Addr) (l : List TW) (n qc : Nat) (la tw pd : Int) (sq ti : Int) (mk : Bool) (ty : Int) (MA : Option Addr) (mn mc : Nat) (w : World) (hn : l.length = n) (hl : n ≤ 200) (hA : Wts w w.heap.size A l) (n0 : 0 ≤ nw) (n1 : nw ≤ 281474976710656) (t0 : -281474976710656 ≤ ti) (t1 : ti ≤ 281474976710656) (r0 : -1125899906842624 ≤ tr) (r1 : tr ≤ 1125899906842624) (s0 : 0 ≤ sp) (s1 : sp ≤ 72057594037927936) (c0 : 1 ≤ le) (c1 : le ≤ mo) (c2 : mo ≤ 1000) (hAt : ∀ a ∈ l, 0 ≤ a.w.at_ ∧ a.w.at_ ≤ 562949953421312) (pl : List Int) (hmk : mk = true) (hsq : hi < sq) (h0 : 0 < n) (hlt : tr ≤ nw - ti / 8) : Calls Try.prog 32 #[.agg #[.int .i64 le, .int .i64 mo, .int .i64 nw, .bool true, .int .i64 ze, .int .i64 fi, .int .i64 hi, .int .i64 dn, .int .i64 sp, .int .i64 tr, .slice A n qc, .int .i64 la, .int .i64 tw, .int .i64 pd], .agg #[.int .i64 sq, .int .i64 ti, .bool mk, .int .u8 ty, .slice MA mn mc]] w (MeasR ⟨le, mo, nw, true, ze, fi, hi, dn, sp, tr, l.map TW.w, la, tw, pd⟩ ⟨sq, ti, mk, ty, pl⟩ A n qc w) := by
  subst hn
  obtain ⟨y, hy⟩ : ∃ y, y = ti / 8 := ⟨_, rfl⟩
  have k1 := Lib.hid fun W => eighth_any ti W (by omega) (by omega)
  rw [← hy] at k1
  have hyb : -35184372088832 ≤ y ∧ y ≤ 35184372088832 := by omega
  obtain ⟨y0, y1⟩ := hyb
  obtain ⟨T, hT⟩ : ∃ T, T = nw - y := ⟨_, rfl⟩
  have e1 : nw - y = T := hT.symm
  have ew : IntKind.i64.wrap (nw - y) = T := by rw [i64_small _ (by omega) (by omega)]; exact e1
  have HT := Lib.hid hT
  have HY := Lib.hid hy
  have T0 : -1000000000000000 ≤ T := by omega
  have T1 : T ≤ 1000000000000000 := by omega
  have HA := Lib.hid hA
  have HAT := Lib.hid hAt
  have hd : tr ≤ T := by omega
  have sp0 : 0 ≤ (sp + (T - tr - (sp + 8) / 16)) := by omega
  have sp1 : (sp + (T - tr - (sp + 8) / 16)) ≤ 9000000000000000000 := by omega
  subst hmk
  have HSQ := Lib.hid hsq
  clear hT hy hA hAt hlt
  have h0' : (0 : Int) < (l.length : Int) := by omega
  have h0n : ¬l.length = 0 := by omega
  have h0l : ¬l = [] := by intro h; rw [h] at h0n; exact h0n rfl
  obtain ⟨a, ha⟩ : ∃ a, l[l.length - 1]? = some a := ⟨_, List.getElem?_eq_getElem (by omega)⟩
  obtain ⟨b, off, rfl, hbB, e0, q1, q2, q3, q4, q5⟩ := rowsW HA.out.1 ha
  obtain ⟨z0, z1⟩ := HAT.out a (List.mem_of_getElem? ha)
  have hgd : (l.map TW.w).getD (l.length - 1) Jb.Wt.zero = a.w := by simp [List.getD_eq_getElem?_getD, ha]
  have HGD := Lib.hid hgd
  obtain ⟨at0, hat0⟩ : ∃ x, x = a.w.at_ := ⟨_, rfl⟩
  rw [← hat0] at e0 z0 z1
  have HAT0 := Lib.hid hat0
  obtain ⟨m, hm⟩ : ∃ m, l.length = m + 1 := ⟨l.length - 1, by omega⟩
  rw [hm, Nat.add_sub_cancel] at e0
  have HMM := Lib.hid hm
  have hw1 : IntKind.i64.wrap ((l.length : Int) - 1) = (m : Int) := by rw [i64_small _ (by omega) (by omega)]; omega
  have hw3 : (l.length : Int) - 1 = (m : Int) := by omega
  have hm0 : (0 : Int) ≤ (m : Int) := by omega
  have hm1 : (m : Int) < (l.length : Int) := by omega
  have hm2 : m < l.length := by omega
  have hw5 : IntKind.i64.wrap (at0 + 1) = at0 + 1 := i64_small _ (by omega) (by omega)
  have hce : ∀ o1 o2 o3 : Obj, (((w.alloc o1).alloc o2).alloc o3).cell? ⟨b, off + m * 6, none⟩ = some (.int .i64 at0) := fun o1 o2 o3 => by
    rw [World.cell?_alloc_lt _ _ _ (by simp; omega), World.cell?_alloc_lt _ _ _ (by simp; omega), World.cell?_alloc_lt _ _ _ (by exact hbB)]; exact e0
  have hb1 : ¬b = w.heap.size := by omega
  have hb2 : ¬b = w.heap.size + 1 := by omega
  have hb3 : ¬b = w.heap.size + 1 + 1 := by omega
  clear ha hgd hat0 hm q1 q2 q3 q4 q5 h0
  go_enter Try.func32, Try.ntmps32
  go_wp2_with fail
  go_quiet ((go_at_call 50; exact Calls.quiet_of_same ((k1.out _).mono fun _ _ h => ⟨h.1, h.2.symm⟩)))
  go_wp2_with fail
  go_region
  go_wp2_with fail
  have hSP : sp + max (T - tr) (tr - T) - (sp + 8) / 16 = (sp + (T - tr - (sp + 8) / 16)) := by omega
  have hla : ∀ z, Jb.lastAt z (l.map TW.w) = max z (at0 + 1) := by
    intro z
    unfold Jb.lastAt
    rw [if_neg (by simp; omega), List.length_map, HGD.out, ← HAT0.out]
  have BF : Blk ((((w.alloc (.cells #[.int .i64 le, .int .i64 mo, .int .i64 nw, .bool true, .int .i64 (max (nw + min (le + (sp + (T - tr - (sp + 8) / 16)) / 4) mo) (at0 + 1)), .int .i64 ti, .int .i64 (max hi sq), .int .i64 dn, .int .i64 (sp + (T - tr - (sp + 8) / 16)), .int .i64 T, .slice (some ⟨b, off, none⟩) l.length qc, .int .i64 la, .int .i64 tw, .int .i64 pd] 26)).alloc (.cells #[.int .i64 sq, .int .i64 ti, .bool true, .int .u8 ty, .slice MA mn mc] 29)).alloc (.cells #[.int .i64 le, .int .i64 mo, .int .i64 nw, .bool true, .int .i64 (max (nw + min (le + (sp + (T - tr - (sp + 8) / 16)) / 4) mo) (at0 + 1)), .int .i64 ti, .int .i64 (max hi sq), .int .i64 dn, .int .i64 (sp + (T - tr - (sp + 8) / 16)), .int .i64 T, .slice (some ⟨b, off, none⟩) l.length qc, .int .i64 la, .int .i64 tw, .int .i64 pd] 26)).drewN (nq + 1)) (w.heap.size + 1 + 1) 26 #[.int .i64 le, .int .i64 mo, .int .i64 nw, .bool true, .int .i64 (max (nw + min (le + (sp + (T - tr - (sp + 8) / 16)) / 4) mo) (at0 + 1)), .int .i64 ti, .int .i64 (max hi sq), .int .i64 dn, .int .i64 (sp + (T - tr - (sp + 8) / 16)), .int .i64 T, .slice (some ⟨b, off, none⟩) l.length qc, .int .i64 la, .int .i64 tw, .int .i64 pd] := by
    have h9 := Blk.new ((w.alloc (.cells #[.int .i64 le, .int .i64 mo, .int .i64 nw, .bool true, .int .i64 (max (nw + min (le + (sp + (T - tr - (sp + 8) / 16)) / 4) mo) (at0 + 1)), .int .i64 ti, .int .i64 (max hi sq), .int .i64 dn, .int .i64 (sp + (T - tr - (sp + 8) / 16)), .int .i64 T, .slice (some ⟨b, off, none⟩) l.length qc, .int .i64 la, .int .i64 tw, .int .i64 pd] 26)).alloc (.cells #[.int .i64 sq, .int .i64 ti, .bool true, .int .u8 ty, .slice MA mn mc] 29)) 26 #[.int .i64 le, .int .i64 mo, .int .i64 nw, .bool true, .int .i64 (max (nw + min (le + (sp + (T - tr - (sp + 8) / 16)) / 4) mo) (at0 + 1)), .int .i64 ti, .int .i64 (max hi sq), .int .i64 dn, .int .i64 (sp + (T - tr - (sp + 8) / 16)), .int .i64 T, .slice (some ⟨b, off, none⟩) l.length qc, .int .i64 la, .int .i64 tw, .int .i64 pd]
    rw [size_alloc2] at h9
    exact h9.drewN _
  have hM : Jb.meas ⟨le, mo, nw, true, ze, fi, hi, dn, sp, tr, l.map TW.w, la, tw, pd⟩ ⟨sq, ti, true, ty, pl⟩ = ⟨le, mo, nw, true, (max (nw + min (le + (sp + (T - tr - (sp + 8) / 16)) / 4) mo) (at0 + 1)), ti, max hi sq, dn, (sp + (T - tr - (sp + 8) / 16)), T, l.map TW.w, la, tw, pd⟩ := by
    unfold Jb.meas
    have hb : (true = false ∨ (True ∧ hi < sq)) := Or.inr ⟨trivial, HSQ.out⟩
    simp only [← HY.out, ← HT.out, if_true, hSP, if_pos hb]
    rw [hla]
  refine bodyPost_ret (v := .agg #[.int .i64 le, .int .i64 mo, .int .i64 nw, .bool true, .int .i64 (max (nw + min (le + (sp + (T - tr - (sp + 8) / 16)) / 4) mo) (at0 + 1)), .int .i64 ti, .int .i64 (max hi sq), .int .i64 dn, .int .i64 (sp + (T - tr - (sp + 8) / 16)), .int .i64 T, .slice (some ⟨b, off, none⟩) l.length qc, .int .i64 la, .int .i64 tw, .int .i64 pd]) (res_c Try.results32 rfl (run_loadVar_row (P := Try.prog) _ _ _ _ _ _ _ BF Try.underlying26 rfl (by kernel_rfl))) rfl ⟨by rw [hM]; rfl, ?_⟩
  exact Bel.drewN (((((Bel.refl w).push _).push _).push _)) _
end Go.Proofs.Ytnaafjdnmbajjaa
/- Layer 30: measure, whatever the state. -/
namespace Go.Proofs.Ytnaafjdnmbajjaa
open Go.RowKit
set_option linter.unusedVariables false
set_option linter.unusedSimpArgs false
attribute [local go_sem ↓] run_min_plain run_max_plain
attribute [local go_sem] setCell_drewN alloc_drewN
theorem measure_any (le mo nw : Int) (on : Bool) (ze fi hi dn sp tr : Int) (A : Option Addr) (l : List TW) (n qc : Nat) (la tw pd : Int) (sq ti : Int) (mk : Bool) (ty : Int) (MA : Option Addr) (mn mc : Nat) (w : World) (hn : l.length = n)(hl : n ≤ 200) (hA : Wts w w.heap.size A l) (n0 : 0 ≤ nw) (n1 : nw ≤ 281474976710656) (t0 : -281474976710656 ≤ ti) (t1 : ti ≤ 281474976710656) (r0 : -1125899906842624 ≤ tr) (r1 : tr ≤ 1125899906842624) (s0 : 0 ≤ sp) (s1 : sp ≤ 72057594037927936) (c0 : 1 ≤ le) (c1 : le ≤ mo) (c2 : mo ≤ 1000) (hAt : ∀ a ∈ l, 0 ≤ a.w.at_ ∧ a.w.at_ ≤ 562949953421312) (pl : List Int) : Calls Try.prog 32 #[.agg #[.int .i64 le, .int .i64 mo, .int .i64 nw, .bool on, .int .i64 ze, .int .i64 fi, .int .i64 hi, .int .i64 dn, .int .i64 sp, .int .i64 tr, .slice A n qc, .int .i64 la, .int .i64 tw, .int .i64 pd], .agg #[.int .i64 sq, .int .i64 ti, .bool mk, .int .u8 ty, .slice MA mn mc]] w (MeasR ⟨le, mo, nw, on, ze, fi, hi, dn, sp, tr, l.map TW.w, la, tw, pd⟩ ⟨sq, ti, mk, ty, pl⟩ A n qc w) := by
  cases on
  · by_cases h0 : n = 0
    · exact measure_off0 le mo nw ze fi hi dn sp tr A l n qc la tw pd sq ti mk ty MA mn mc w hn hl hA n0 n1 t0 t1 r0 r1 s0 s1 c0 c1 c2 hAt pl h0
    · exact measure_off1 le mo nw ze fi hi dn sp tr A l n qc la tw pd sq ti mk ty MA mn mc w hn hl hA n0 n1 t0 t1 r0 r1 s0 s1 c0 c1 c2 hAt pl (by omega)
  by_cases hlt : nw - ti / 8 < tr
  · by_cases hmk : mk = true
    rotate_left
    · exact measure_lt_n le mo nw  ze fi hi dn sp tr A l n qc la tw pd sq ti mk ty MA mn mc w hn hl hA n0 n1 t0 t1 r0 r1 s0 s1 c0 c1 c2 hAt pl (by simpa using hmk) hlt
    by_cases hsq : hi < sq
    rotate_left
    · exact measure_lt_o le mo nw  ze fi hi dn sp tr A l n qc la tw pd sq ti mk ty MA mn mc w hn hl hA n0 n1 t0 t1 r0 r1 s0 s1 c0 c1 c2 hAt pl hmk (by omega) hlt
    by_cases h0 : n = 0
    · exact measure_lt_0 le mo nw  ze fi hi dn sp tr A l n qc la tw pd sq ti mk ty MA mn mc w hn hl hA n0 n1 t0 t1 r0 r1 s0 s1 c0 c1 c2 hAt pl hmk hsq h0 hlt
    · exact measure_lt_1 le mo nw  ze fi hi dn sp tr A l n qc la tw pd sq ti mk ty MA mn mc w hn hl hA n0 n1 t0 t1 r0 r1 s0 s1 c0 c1 c2 hAt pl hmk hsq (by omega) hlt
  · replace hlt : tr ≤ nw - ti / 8 := by omega
    by_cases hmk : mk = true
    rotate_left
    · exact measure_ge_n le mo nw  ze fi hi dn sp tr A l n qc la tw pd sq ti mk ty MA mn mc w hn hl hA n0 n1 t0 t1 r0 r1 s0 s1 c0 c1 c2 hAt pl (by simpa using hmk) hlt
    by_cases hsq : hi < sq
    rotate_left
    · exact measure_ge_o le mo nw  ze fi hi dn sp tr A l n qc la tw pd sq ti mk ty MA mn mc w hn hl hA n0 n1 t0 t1 r0 r1 s0 s1 c0 c1 c2 hAt pl hmk (by omega) hlt
    by_cases h0 : n = 0
    · exact measure_ge_0 le mo nw  ze fi hi dn sp tr A l n qc la tw pd sq ti mk ty MA mn mc w hn hl hA n0 n1 t0 t1 r0 r1 s0 s1 c0 c1 c2 hAt pl hmk hsq h0 hlt
    · exact measure_ge_1 le mo nw  ze fi hi dn sp tr A l n qc la tw pd sq ti mk ty MA mn mc w hn hl hA n0 n1 t0 t1 r0 r1 s0 s1 c0 c1 c2 hAt pl hmk hsq (by omega) hlt
end Go.Proofs.Ytnaafjdnmbajjaa

/- Layer 30: Put and Run, at a state. -/
import Derived.Test.YtnaafjdnmbajjaaJtPutSQ
import Derived.Test.YtnaafjdnmbajjaaJtPutBQ
import Derived.Test.YtnaafjdnmbajjaaJtPutD0
import Derived.Test.YtnaafjdnmbajjaaJtPutD1
import Derived.Test.YtnaafjdnmbajjaaJtPutE0
import Derived.Test.YtnaafjdnmbajjaaJtPutE1
import Derived.Test.YtnaafjdnmbajjaaJtPutF0
import Derived.Test.YtnaafjdnmbajjaaJtPutF1
import Derived.Test.YtnaafjdnmbajjaaJtPutG0
import Derived.Test.YtnaafjdnmbajjaaJtPutG1
namespace Go.Proofs.Ytnaafjdnmbajjaa
open Go.RowKit
set_option linter.unusedVariables false
set_option linter.unusedSimpArgs false
attribute [local go_sem ↓] run_min_plain run_max_plain
attribute [local go_sem] setCell_drewN alloc_drewN
theorem jput_any (le mo nw : Int) (on : Bool) (ze fi hi dn sp tr : Int) (A : Option Addr) (l : List TW) (n qc : Nat) (la tw pd : Int) (now : Int) (sq ti : Int) (mk : Bool) (ty : Int) (MA : Option Addr) (mn mc : Nat) (pl : List Int) (w : World) (hn : l.length = n) (hmn : pl.length = mn) (hl : n ≤ 100000) (hm9 : mn ≤ 100000) (hcap : n ≤ qc) (hcm : qc ≤ maxLen) (hA : Wts w w.heap.size A l) (hK : ∀ a ∈ l, I64 a.w.m.sq) (hMI : IntsAt w w.heap.size .u8 MA pl) : Calls Try.prog 11 #[.agg #[.int .i64 le, .int .i64 mo, .int .i64 nw, .bool on, .int .i64 ze, .int .i64 fi, .int .i64 hi, .int .i64 dn, .int .i64 sp, .int .i64 tr, .slice A n qc, .int .i64 la, .int .i64 tw, .int .i64 pd], .int .i64 now, .agg #[.int .i64 sq, .int .i64 ti, .bool mk, .int .u8 ty, .slice MA mn mc]] w (JPutR ⟨le, mo, nw, on, ze, fi, hi, dn, sp, tr, l.map TW.w, la, tw, pd⟩ now ⟨sq, ti, mk, ty, pl⟩ w) := by
  by_cases hr0 : Jb.chk ⟨le, mo, nw, on, ze, fi, hi, dn, sp, tr, l.map TW.w, la, tw, pd⟩ now (decide (Jb.Md.ok ⟨sq, ti, mk, ty, pl⟩)) = 0
  rotate_left
  · exact jput_bad le mo nw on ze fi hi dn sp tr A l n qc la tw pd now sq ti mk ty MA mn mc pl w hn hmn hl hm9 hcap hcm hA hK hMI hr0
  cases hany : ((Jb.run0 ⟨le, mo, nw, on, ze, fi, hi, dn, sp, tr, l.map TW.w, la, tw, pd⟩ now).q.any fun w => w.m.sq == sq)
  rotate_left
  · exact jput_twice le mo nw on ze fi hi dn sp tr A l n qc la tw pd now sq ti mk ty MA mn mc pl w hn hmn hl hm9 hcap hcm hA hK hMI hr0 hany
  cases on
  · by_cases hfull : 200 ≤ (Jb.run0 ⟨le, mo, nw, false, ze, fi, hi, dn, sp, tr, l.map TW.w, la, tw, pd⟩ now).q.length
    · exact jput_full0 le mo nw ze fi hi dn sp tr A l n qc la tw pd now sq ti mk ty MA mn mc pl w hn hmn hl hm9 hcap hcm hA hK hMI hr0 hany hfull
    by_cases hla : (Jb.ptime (Jb.meas (Jb.run0 ⟨le, mo, nw, false, ze, fi, hi, dn, sp, tr, l.map TW.w, la, tw, pd⟩ now) (⟨sq, ti, mk, ty, pl⟩ : Jb.Md)) ti) ≤ now
    · exact jput_past0 le mo nw ze fi hi dn sp tr A l n qc la tw pd now sq ti mk ty MA mn mc pl w hn hmn hl hm9 hcap hcm hA hK hMI hr0 hany (Nat.lt_of_not_le hfull) hla
    by_cases hfar : now + 120000 < (Jb.ptime (Jb.meas (Jb.run0 ⟨le, mo, nw, false, ze, fi, hi, dn, sp, tr, l.map TW.w, la, tw, pd⟩ now) (⟨sq, ti, mk, ty, pl⟩ : Jb.Md)) ti)
    · exact jput_far0 le mo nw ze fi hi dn sp tr A l n qc la tw pd now sq ti mk ty MA mn mc pl w hn hmn hl hm9 hcap hcm hA hK hMI hr0 hany (Nat.lt_of_not_le hfull) (Int.not_le.1 hla) hfar
    · exact jput_take0 le mo nw ze fi hi dn sp tr A l n qc la tw pd now sq ti mk ty MA mn mc pl w hn hmn hl hm9 hcap hcm hA hK hMI hr0 hany (Nat.lt_of_not_le hfull) (Int.not_le.1 hla) (Int.not_lt.1 hfar)
  by_cases hls : sq ≤ (Jb.run0 ⟨le, mo, nw, true, ze, fi, hi, dn, sp, tr, l.map TW.w, la, tw, pd⟩ now).done
  · exact jput_late le mo nw ze fi hi dn sp tr A l n qc la tw pd now sq ti mk ty MA mn mc pl w hn hmn hl hm9 hcap hcm hA hK hMI hr0 hany hls
  replace hls := Int.not_le.1 hls
  by_cases hfull : 200 ≤ (Jb.run0 ⟨le, mo, nw, true, ze, fi, hi, dn, sp, tr, l.map TW.w, la, tw, pd⟩ now).q.length
  · exact jput_full1 le mo nw ze fi hi dn sp tr A l n qc la tw pd now sq ti mk ty MA mn mc pl w hn hmn hl hm9 hcap hcm hA hK hMI hr0 hany hls hfull
  by_cases hla : (Jb.ptime (Jb.meas (Jb.run0 ⟨le, mo, nw, true, ze, fi, hi, dn, sp, tr, l.map TW.w, la, tw, pd⟩ now) (⟨sq, ti, mk, ty, pl⟩ : Jb.Md)) ti) ≤ now
  · exact jput_past1 le mo nw ze fi hi dn sp tr A l n qc la tw pd now sq ti mk ty MA mn mc pl w hn hmn hl hm9 hcap hcm hA hK hMI hr0 hany hls (Nat.lt_of_not_le hfull) hla
  by_cases hfar : now + 120000 < (Jb.ptime (Jb.meas (Jb.run0 ⟨le, mo, nw, true, ze, fi, hi, dn, sp, tr, l.map TW.w, la, tw, pd⟩ now) (⟨sq, ti, mk, ty, pl⟩ : Jb.Md)) ti)
  · exact jput_far1 le mo nw ze fi hi dn sp tr A l n qc la tw pd now sq ti mk ty MA mn mc pl w hn hmn hl hm9 hcap hcm hA hK hMI hr0 hany hls (Nat.lt_of_not_le hfull) (Int.not_le.1 hla) hfar
  · exact jput_take1 le mo nw ze fi hi dn sp tr A l n qc la tw pd now sq ti mk ty MA mn mc pl w hn hmn hl hm9 hcap hcm hA hK hMI hr0 hany hls (Nat.lt_of_not_le hfull) (Int.not_le.1 hla) (Int.not_lt.1 hfar)
theorem jput_st (s : Jb.Jt) (A : Option Addr) (l : List TW) (n c : Nat) (now : Int) (m : Jb.Md) (MA : Option Addr) (mn mc : Nat) (w : World) (hq : l.map TW.w = s.q) (hn : l.length = n) (hl : n ≤ 100000) (hcap : n ≤ c) (hcm : c ≤ maxLen) (hA : Wts w w.heap.size A l) (hK : ∀ a ∈ l, I64 a.w.m.sq) (hmn : m.pl.length = mn) (hm9 : mn ≤ 100000) (hMI : IntsAt w w.heap.size .u8 MA m.pl) : Calls Try.prog 11 #[.agg #[.int .i64 s.least, .int .i64 s.most, .int .i64 s.now, .bool s.on, .int .i64 s.zero, .int .i64 s.first, .int .i64 s.high, .int .i64 s.done, .int .i64 s.spread, .int .i64 s.trans, .slice A n c, .int .i64 s.late, .int .i64 s.twice, .int .i64 s.played], .int .i64 now, .agg #[.int .i64 m.sq, .int .i64 m.ti, .bool m.mrk, .int .u8 m.ty, .slice MA mn mc]] w (JPutR s now m w) := by
  obtain ⟨le, mo, nw, on, ze, fi, hi, dn, sp, tr, q, la, tw, pd⟩ := s
  obtain ⟨sq, ti, mk, ty, pl⟩ := m
  simp only at hq hmn hMI ⊢
  subst hq
  exact jput_any le mo nw on ze fi hi dn sp tr A l n c la tw pd now sq ti mk ty MA mn mc pl w hn hmn hl hm9 hcap hcm hA hK hMI
theorem jrun_st (s : Jb.Jt) (A : Option Addr) (l : List TW) (n c : Nat) (now : Int) (w : World) (hq : l.map TW.w = s.q) (hn : l.length = n) (hl : n ≤ 100000) (hcap : n ≤ c) (hcm : c ≤ maxLen) (hA : Wts w w.heap.size A l) (hK : ∀ a ∈ l, I64 a.w.m.sq) : Calls Try.prog 13 #[.agg #[.int .i64 s.least, .int .i64 s.most, .int .i64 s.now, .bool s.on, .int .i64 s.zero, .int .i64 s.first, .int .i64 s.high, .int .i64 s.done, .int .i64 s.spread, .int .i64 s.trans, .slice A n c, .int .i64 s.late, .int .i64 s.twice, .int .i64 s.played], .int .i64 now] w (JRunR s now w) := by
  obtain ⟨le, mo, nw, on, ze, fi, hi, dn, sp, tr, q, la, tw, pd⟩ := s
  simp only at hq ⊢
  subst hq
  exact jrun_let le mo nw on ze fi hi dn sp tr A l n c la tw pd now w hn hl hcap hcm hA hK
theorem valid_st (s : Jb.Jt) (A : Option Addr) (l : List TW) (n c : Nat) (w : World) (hq : l.map TW.w = s.q) (hn : l.length = n) (hl : n ≤ 100000) (hA : Wts w w.heap.size A l) (hK : ∀ a ∈ l, I64 a.w.m.sq) (v : Bool) (hv : v = Jb.valid s) : Calls Try.prog 21 #[.agg #[.int .i64 s.least, .int .i64 s.most, .int .i64 s.now, .bool s.on, .int .i64 s.zero, .int .i64 s.first, .int .i64 s.high, .int .i64 s.done, .int .i64 s.spread, .int .i64 s.trans, .slice A n c, .int .i64 s.late, .int .i64 s.twice, .int .i64 s.played]] w fun e w' => e = .returned (.bool v) ∧ Below w.heap.size w w' := by
  obtain ⟨le, mo, nw, on, ze, fi, hi, dn, sp, tr, q, la, tw, pd⟩ := s
  simp only at hq ⊢
  subst hq
  exact valid_any le mo nw on ze fi hi dn sp tr A l n c la tw pd w hn hl hA hK v hv
end Go.Proofs.Ytnaafjdnmbajjaa
/- Layer 30: New; PlayTime of the program. -/
namespace Go.Proofs.Ytnaafjdnmbajjaa
open Go.RowKit
set_option linter.unusedVariables false
set_option linter.unusedSimpArgs false
attribute [local go_sem ↓] run_min_plain run_max_plain
attribute [local go_sem] setCell_drewN alloc_drewN
/-- what New leaves -/
def NewR (l m : Int) (w : World) (e : Ending) (w' : World) : Prop := e = .returned (.tuple #[JV (Jb.new l m).1 none 0 0, .int .u8 (Jb.new l m).2]) ∧ Below w.heap.size w w'
set_option maxRecDepth 100000 in
set_option maxHeartbeats 12800000 in
theorem new_any (l m : Int) (w : World) : Calls Try.prog 17 #[.agg #[.int .i64 l, .int .i64 m]] w (NewR l m w) := by
  obtain ⟨cv, hcv⟩ : ∃ cv, cv = decide (Jb.cfg l m) := ⟨_, rfl⟩
  have k1 := Lib.hid fun W => config_any l m W cv hcv
  have HC := Lib.hid hcv
  clear hcv
  have U0 := Lib.hid (((Bel.refl w).push (.cells #[.int .i64 l, .int .i64 m] 23)).push (.cells #[.int .i64 0, .int .i64 0, .int .i64 0, .bool false, .int .i64 0, .int .i64 0, .int .i64 0, .int .i64 0, .int .i64 0, .int .i64 0, .slice none 0 0, .int .i64 0, .int .i64 0, .int .i64 0] 26))
  have BC := Lib.hid ((Blk.new w 23 #[.int .i64 l, .int .i64 m]).push (.cells #[.int .i64 0, .int .i64 0, .int .i64 0, .bool false, .int .i64 0, .int .i64 0, .int .i64 0, .int .i64 0, .int .i64 0, .int .i64 0, .slice none 0 0, .int .i64 0, .int .i64 0, .int .i64 0] 26))
  have BR := Lib.hid (Blk.new1 w (.cells #[.int .i64 l, .int .i64 m] 23) 26 #[.int .i64 0, .int .i64 0, .int .i64 0, .bool false, .int .i64 0, .int .i64 0, .int .i64 0, .int .i64 0, .int .i64 0, .int .i64 0, .slice none 0 0, .int .i64 0, .int .i64 0, .int .i64 0])
  cases cv
  · go_enter Try.func17, Try.ntmps17
    go_wp2_with fail
    refine (k1.out _).mono ?_
    rintro e w1 ⟨rfl, hb1⟩
    have U1 := Lib.hid (U0.out.later hb1)
    have BC1 := Lib.hid (BC.out.later hb1)
    have BR1 := Lib.hid (BR.out.later hb1)
    clear hb1
    have c0 := (BC1.out).at 0 _ rfl
    have c1 := (BC1.out).at 1 _ rfl
    have r0 := (BR1.out).at 0 _ rfl
    have r1 := (BR1.out).at 1 _ rfl
    have r2 := (BR1.out).at 2 _ rfl
    have r3 := (BR1.out).at 3 _ rfl
    have r4 := (BR1.out).at 4 _ rfl
    have r5 := (BR1.out).at 5 _ rfl
    have r6 := (BR1.out).at 6 _ rfl
    have r7 := (BR1.out).at 7 _ rfl
    have r8 := (BR1.out).at 8 _ rfl
    have r9 := (BR1.out).at 9 _ rfl
    have r10 := (BR1.out).at 10 _ rfl
    have r11 := (BR1.out).at 11 _ rfl
    have r12 := (BR1.out).at 12 _ rfl
    have r13 := (BR1.out).at 13 _ rfl
    have rfz := BR1.out.frozen
    have hs1 := BR1.out.lt
    go_wp2_with fail
    have BF := Blk.setRow BR1.out [.int .i64 0, .int .i64 0, .int .i64 0, .bool false, .int .i64 0, .int .i64 0, .int .i64 0, .int .i64 0, .int .i64 0, .int .i64 0, .slice none 0 0, .int .i64 0, .int .i64 0, .int .i64 0] rfl
    have UF := below_setRow (g := w.heap.size + 1) (by omega) [.int .i64 0, .int .i64 0, .int .i64 0, .bool false, .int .i64 0, .int .i64 0, .int .i64 0, .int .i64 0, .int .i64 0, .int .i64 0, .slice none 0 0, .int .i64 0, .int .i64 0, .int .i64 0] _ 0 U1.out
    simp only [setRow, Nat.zero_add, Nat.reduceAdd] at BF UF
    have hn : Jb.new l m = (Jb.Jt.none, 3) := by unfold Jb.new; exact if_neg (by have h9 := HC.out; rw [eq_comm, decide_eq_false_iff_not] at h9; exact h9)
    exact bodyPost_ret (v := .tuple #[.agg (List.toArray [.int .i64 0, .int .i64 0, .int .i64 0, .bool false, .int .i64 0, .int .i64 0, .int .i64 0, .int .i64 0, .int .i64 0, .int .i64 0, .slice none 0 0, .int .i64 0, .int .i64 0, .int .i64 0]), .int .u8 3]) (res_ct Try.results17 rfl (run_loadVar_row (P := Try.prog) _ _ _ _ _ _ _ BF Try.underlying26 rfl (by kernel_rfl)) rfl) rfl ⟨by rw [hn]; rfl, UF⟩
  · go_enter Try.func17, Try.ntmps17
    go_wp2_with fail
    refine (k1.out _).mono ?_
    rintro e w1 ⟨rfl, hb1⟩
    have U1 := Lib.hid (U0.out.later hb1)
    have BC1 := Lib.hid (BC.out.later hb1)
    have BR1 := Lib.hid (BR.out.later hb1)
    clear hb1
    have c0 := (BC1.out).at 0 _ rfl
    have c1 := (BC1.out).at 1 _ rfl
    have r0 := (BR1.out).at 0 _ rfl
    have r1 := (BR1.out).at 1 _ rfl
    have r2 := (BR1.out).at 2 _ rfl
    have r3 := (BR1.out).at 3 _ rfl
    have r4 := (BR1.out).at 4 _ rfl
    have r5 := (BR1.out).at 5 _ rfl
    have r6 := (BR1.out).at 6 _ rfl
    have r7 := (BR1.out).at 7 _ rfl
    have r8 := (BR1.out).at 8 _ rfl
    have r9 := (BR1.out).at 9 _ rfl
    have r10 := (BR1.out).at 10 _ rfl
    have r11 := (BR1.out).at 11 _ rfl
    have r12 := (BR1.out).at 12 _ rfl
    have r13 := (BR1.out).at 13 _ rfl
    have rfz := BR1.out.frozen
    have hs1 := BR1.out.lt
    go_wp2_with fail
    have BF := Blk.setRow BR1.out [.int .i64 l, .int .i64 m, .int .i64 0, .bool false, .int .i64 0, .int .i64 0, .int .i64 (-1), .int .i64 (-1), .int .i64 0, .int .i64 0, .slice none 0 0, .int .i64 0, .int .i64 0, .int .i64 0] rfl
    have UF := below_setRow (g := w.heap.size + 1) (by omega) [.int .i64 l, .int .i64 m, .int .i64 0, .bool false, .int .i64 0, .int .i64 0, .int .i64 (-1), .int .i64 (-1), .int .i64 0, .int .i64 0, .slice none 0 0, .int .i64 0, .int .i64 0, .int .i64 0] _ 0 U1.out
    simp only [setRow, Nat.zero_add, Nat.reduceAdd] at BF UF
    have hn : Jb.new l m = (⟨l, m, 0, false, 0, 0, -1, -1, 0, 0, [], 0, 0, 0⟩, 0) := by unfold Jb.new; exact if_pos (by have h9 := HC.out; rw [eq_comm, decide_eq_true_iff] at h9; exact h9)
    exact bodyPost_ret (v := .tuple #[.agg (List.toArray [.int .i64 l, .int .i64 m, .int .i64 0, .bool false, .int .i64 0, .int .i64 0, .int .i64 (-1), .int .i64 (-1), .int .i64 0, .int .i64 0, .slice none 0 0, .int .i64 0, .int .i64 0, .int .i64 0]), .int .u8 0]) (res_ct Try.results17 rfl (run_loadVar_row (P := Try.prog) _ _ _ _ _ _ _ BF Try.underlying26 rfl (by kernel_rfl)) rfl) rfl ⟨by rw [hn]; rfl, UF⟩
set_option maxRecDepth 100000 in
set_option maxHeartbeats 12800000 in
theorem rnew_any (l m : Int) (w : World) : Calls Try.prog 18 #[.agg #[.int .i64 l, .int .i64 m]] w (NewR l m w) := by
  obtain ⟨cv, hcv⟩ : ∃ cv, cv = decide (Jb.cfg l m) := ⟨_, rfl⟩
  have k1 := Lib.hid fun W => rconfig_any l m W cv hcv
  have HC := Lib.hid hcv
  clear hcv
  have U0 := Lib.hid (((Bel.refl w).push (.cells #[.int .i64 l, .int .i64 m] 23)).push (.cells #[.int .i64 0, .int .i64 0, .int .i64 0, .bool false, .int .i64 0, .int .i64 0, .int .i64 0, .int .i64 0, .int .i64 0, .int .i64 0, .slice none 0 0, .int .i64 0, .int .i64 0, .int .i64 0] 26))
  have BC := Lib.hid ((Blk.new w 23 #[.int .i64 l, .int .i64 m]).push (.cells #[.int .i64 0, .int .i64 0, .int .i64 0, .bool false, .int .i64 0, .int .i64 0, .int .i64 0, .int .i64 0, .int .i64 0, .int .i64 0, .slice none 0 0, .int .i64 0, .int .i64 0, .int .i64 0] 26))
  have BR := Lib.hid (Blk.new1 w (.cells #[.int .i64 l, .int .i64 m] 23) 26 #[.int .i64 0, .int .i64 0, .int .i64 0, .bool false, .int .i64 0, .int .i64 0, .int .i64 0, .int .i64 0, .int .i64 0, .int .i64 0, .slice none 0 0, .int .i64 0, .int .i64 0, .int .i64 0])
  cases cv
  · go_enter Try.func18, Try.ntmps18
    go_wp2_with fail
    refine (k1.out _).mono ?_
    rintro e w1 ⟨rfl, hb1⟩
    have U1 := Lib.hid (U0.out.later hb1)
    have BC1 := Lib.hid (BC.out.later hb1)
    have BR1 := Lib.hid (BR.out.later hb1)
    clear hb1
    have c0 := (BC1.out).at 0 _ rfl
    have c1 := (BC1.out).at 1 _ rfl
    have r0 := (BR1.out).at 0 _ rfl
    have r1 := (BR1.out).at 1 _ rfl
    have r2 := (BR1.out).at 2 _ rfl
    have r3 := (BR1.out).at 3 _ rfl
    have r4 := (BR1.out).at 4 _ rfl
    have r5 := (BR1.out).at 5 _ rfl
    have r6 := (BR1.out).at 6 _ rfl
    have r7 := (BR1.out).at 7 _ rfl
    have r8 := (BR1.out).at 8 _ rfl
    have r9 := (BR1.out).at 9 _ rfl
    have r10 := (BR1.out).at 10 _ rfl
    have r11 := (BR1.out).at 11 _ rfl
    have r12 := (BR1.out).at 12 _ rfl
    have r13 := (BR1.out).at 13 _ rfl
    have rfz := BR1.out.frozen
    have hs1 := BR1.out.lt
    go_wp2_with fail
    have BF := Blk.setRow BR1.out [.int .i64 0, .int .i64 0, .int .i64 0, .bool false, .int .i64 0, .int .i64 0, .int .i64 0, .int .i64 0, .int .i64 0, .int .i64 0, .slice none 0 0, .int .i64 0, .int .i64 0, .int .i64 0] rfl
    have UF := below_setRow (g := w.heap.size + 1) (by omega) [.int .i64 0, .int .i64 0, .int .i64 0, .bool false, .int .i64 0, .int .i64 0, .int .i64 0, .int .i64 0, .int .i64 0, .int .i64 0, .slice none 0 0, .int .i64 0, .int .i64 0, .int .i64 0] _ 0 U1.out
    simp only [setRow, Nat.zero_add, Nat.reduceAdd] at BF UF
    have hn : Jb.new l m = (Jb.Jt.none, 3) := by unfold Jb.new; exact if_neg (by have h9 := HC.out; rw [eq_comm, decide_eq_false_iff_not] at h9; exact h9)
    exact bodyPost_ret (v := .tuple #[.agg (List.toArray [.int .i64 0, .int .i64 0, .int .i64 0, .bool false, .int .i64 0, .int .i64 0, .int .i64 0, .int .i64 0, .int .i64 0, .int .i64 0, .slice none 0 0, .int .i64 0, .int .i64 0, .int .i64 0]), .int .u8 3]) (res_ct Try.results18 rfl (run_loadVar_row (P := Try.prog) _ _ _ _ _ _ _ BF Try.underlying26 rfl (by kernel_rfl)) rfl) rfl ⟨by rw [hn]; rfl, UF⟩
  · go_enter Try.func18, Try.ntmps18
    go_wp2_with fail
    refine (k1.out _).mono ?_
    rintro e w1 ⟨rfl, hb1⟩
    have U1 := Lib.hid (U0.out.later hb1)
    have BC1 := Lib.hid (BC.out.later hb1)
    have BR1 := Lib.hid (BR.out.later hb1)
    clear hb1
    have c0 := (BC1.out).at 0 _ rfl
    have c1 := (BC1.out).at 1 _ rfl
    have r0 := (BR1.out).at 0 _ rfl
    have r1 := (BR1.out).at 1 _ rfl
    have r2 := (BR1.out).at 2 _ rfl
    have r3 := (BR1.out).at 3 _ rfl
    have r4 := (BR1.out).at 4 _ rfl
    have r5 := (BR1.out).at 5 _ rfl
    have r6 := (BR1.out).at 6 _ rfl
    have r7 := (BR1.out).at 7 _ rfl
    have r8 := (BR1.out).at 8 _ rfl
    have r9 := (BR1.out).at 9 _ rfl
    have r10 := (BR1.out).at 10 _ rfl
    have r11 := (BR1.out).at 11 _ rfl
    have r12 := (BR1.out).at 12 _ rfl
    have r13 := (BR1.out).at 13 _ rfl
    have rfz := BR1.out.frozen
    have hs1 := BR1.out.lt
    go_wp2_with fail
    have BF := Blk.setRow BR1.out [.int .i64 l, .int .i64 m, .int .i64 0, .bool false, .int .i64 0, .int .i64 0, .int .i64 (-1), .int .i64 (-1), .int .i64 0, .int .i64 0, .slice none 0 0, .int .i64 0, .int .i64 0, .int .i64 0] rfl
    have UF := below_setRow (g := w.heap.size + 1) (by omega) [.int .i64 l, .int .i64 m, .int .i64 0, .bool false, .int .i64 0, .int .i64 0, .int .i64 (-1), .int .i64 (-1), .int .i64 0, .int .i64 0, .slice none 0 0, .int .i64 0, .int .i64 0, .int .i64 0] _ 0 U1.out
    simp only [setRow, Nat.zero_add, Nat.reduceAdd] at BF UF
    have hn : Jb.new l m = (⟨l, m, 0, false, 0, 0, -1, -1, 0, 0, [], 0, 0, 0⟩, 0) := by unfold Jb.new; exact if_pos (by have h9 := HC.out; rw [eq_comm, decide_eq_true_iff] at h9; exact h9)
    exact bodyPost_ret (v := .tuple #[.agg (List.toArray [.int .i64 l, .int .i64 m, .int .i64 0, .bool false, .int .i64 0, .int .i64 0, .int .i64 (-1), .int .i64 (-1), .int .i64 0, .int .i64 0, .slice none 0 0, .int .i64 0, .int .i64 0, .int .i64 0]), .int .u8 0]) (res_ct Try.results18 rfl (run_loadVar_row (P := Try.prog) _ _ _ _ _ _ _ BF Try.underlying26 rfl (by kernel_rfl)) rfl) rfl ⟨by rw [hn]; rfl, UF⟩
theorem play_ok {s : Jb.Jt} {t : Int} (h : Jb.valid s = true) (t0 : -281474976710656 ≤ t) (t1 : t ≤ 281474976710656) : Jb.play s t = s.zero + (t - s.first) / 8 := by unfold Jb.play; rw [if_pos ⟨by unfold Jb.valid at h; simpa using h, t0, t1⟩]; rfl
theorem play_no {s : Jb.Jt} {t : Int} (h : Jb.valid s = false ∨ t < -281474976710656 ∨ 281474976710656 < t) : Jb.play s t = 0 := by
  unfold Jb.play
  rw [if_neg]
  rintro ⟨h1, h2, h3⟩
  rcases h with h | h | h
  · unfold Jb.valid at h; simp at h; exact h h1
  · omega
  · omega
set_option maxRecDepth 100000 in
set_option maxHeartbeats 12800000 in
theorem playx_let (le mo nw : Int) (on : Bool) (ze fi hi dn sp tr : Int) (A : Option Addr) (l : List TW) (n qc : Nat) (la tw pd : Int) (t : Int) (w : World) (hn : l.length = n) (hl : n ≤ 100000) (hA : Wts w w.heap.size A l) (hK : ∀ a ∈ l, I64 a.w.m.sq) : Calls Try.prog 22 #[.agg #[.int .i64 le, .int .i64 mo, .int .i64 nw, .bool on, .int .i64 ze, .int .i64 fi, .int .i64 hi, .int .i64 dn, .int .i64 sp, .int .i64 tr, .slice A n qc, .int .i64 la, .int .i64 tw, .int .i64 pd], .int .i64 t] w fun e w' => e = .returned (.int .i64 (Jb.play ⟨le, mo, nw, on, ze, fi, hi, dn, sp, tr, l.map TW.w, la, tw, pd⟩ t)) ∧ Below w.heap.size w w' := by
  subst hn
  obtain ⟨r, hr⟩ : ∃ r, r = Jb.play ⟨le, mo, nw, on, ze, fi, hi, dn, sp, tr, l.map TW.w, la, tw, pd⟩ t := ⟨_, rfl⟩
  rw [← hr]
  have HR := Lib.hid hr
  obtain ⟨vv, hvv⟩ : ∃ vv, vv = Jb.valid ⟨le, mo, nw, on, ze, fi, hi, dn, sp, tr, l.map TW.w, la, tw, pd⟩ := ⟨_, rfl⟩
  have HVV := Lib.hid hvv
  have k1 := Lib.hid fun (W : World) (hW : Bel w W) => valid_any le mo nw on ze fi hi dn sp tr A l l.length qc la tw pd W rfl hl ((hA.below hW).more hW.size) hK vv hvv
  have U0 := Lib.hid ((Bel.refl w).push (.cells #[.int .i64 le, .int .i64 mo, .int .i64 nw, .bool on, .int .i64 ze, .int .i64 fi, .int .i64 hi, .int .i64 dn, .int .i64 sp, .int .i64 tr, .slice A l.length qc, .int .i64 la, .int .i64 tw, .int .i64 pd] 26))
  have BS := Lib.hid (Blk.new w 26 #[.int .i64 le, .int .i64 mo, .int .i64 nw, .bool on, .int .i64 ze, .int .i64 fi, .int .i64 hi, .int .i64 dn, .int .i64 sp, .int .i64 tr, .slice A l.length qc, .int .i64 la, .int .i64 tw, .int .i64 pd])
  clear hr hvv hA hK
  cases vv
  · obtain rfl : r = 0 := by rw [HR.out]; exact play_no (.inl HVV.out.symm)
    go_enter Try.func22, Try.ntmps22
    go_wp2_with fail
    refine (k1.out _ U0.out).mono ?_
    rintro e w1 ⟨rfl, hb1⟩
    have U1 := Lib.hid (U0.out.later hb1)
    have BS1 := Lib.hid (BS.out.later hb1)
    clear hb1
    have s0 := (BS1.out).at 0 _ rfl
    have s1 := (BS1.out).at 1 _ rfl
    have s2 := (BS1.out).at 2 _ rfl
    have s3 := (BS1.out).at 3 _ rfl
    have s4 := (BS1.out).at 4 _ rfl
    have s5 := (BS1.out).at 5 _ rfl
    have s6 := (BS1.out).at 6 _ rfl
    have s7 := (BS1.out).at 7 _ rfl
    have s8 := (BS1.out).at 8 _ rfl
    have s9 := (BS1.out).at 9 _ rfl
    have s10 := (BS1.out).at 10 _ rfl
    have s11 := (BS1.out).at 11 _ rfl
    have s12 := (BS1.out).at 12 _ rfl
    have s13 := (BS1.out).at 13 _ rfl
    go_wp2_with fail
    go_ret
    exact ⟨by first | rfl | simp, U1.out⟩
  by_cases c1 : t < -281474976710656
  · obtain rfl : r = 0 := by rw [HR.out]; exact play_no (.inr (.inl c1))
    go_enter Try.func22, Try.ntmps22
    go_wp2_with fail
    refine (k1.out _ U0.out).mono ?_
    rintro e w1 ⟨rfl, hb1⟩
    have U1 := Lib.hid (U0.out.later hb1)
    have BS1 := Lib.hid (BS.out.later hb1)
    clear hb1
    have s0 := (BS1.out).at 0 _ rfl
    have s1 := (BS1.out).at 1 _ rfl
    have s2 := (BS1.out).at 2 _ rfl
    have s3 := (BS1.out).at 3 _ rfl
    have s4 := (BS1.out).at 4 _ rfl
    have s5 := (BS1.out).at 5 _ rfl
    have s6 := (BS1.out).at 6 _ rfl
    have s7 := (BS1.out).at 7 _ rfl
    have s8 := (BS1.out).at 8 _ rfl
    have s9 := (BS1.out).at 9 _ rfl
    have s10 := (BS1.out).at 10 _ rfl
    have s11 := (BS1.out).at 11 _ rfl
    have s12 := (BS1.out).at 12 _ rfl
    have s13 := (BS1.out).at 13 _ rfl
    go_wp2_with fail
    go_ret
    exact ⟨by first | rfl | simp, U1.out⟩
  have c1' : -281474976710656 ≤ t := by omega
  by_cases c2 : 281474976710656 < t
  · obtain rfl : r = 0 := by rw [HR.out]; exact play_no (.inr (.inr c2))
    go_enter Try.func22, Try.ntmps22
    go_wp2_with fail
    refine (k1.out _ U0.out).mono ?_
    rintro e w1 ⟨rfl, hb1⟩
    have U1 := Lib.hid (U0.out.later hb1)
    have BS1 := Lib.hid (BS.out.later hb1)
    clear hb1
    have s0 := (BS1.out).at 0 _ rfl
    have s1 := (BS1.out).at 1 _ rfl
    have s2 := (BS1.out).at 2 _ rfl
    have s3 := (BS1.out).at 3 _ rfl
    have s4 := (BS1.out).at 4 _ rfl
    have s5 := (BS1.out).at 5 _ rfl
    have s6 := (BS1.out).at 6 _ rfl
    have s7 := (BS1.out).at 7 _ rfl
    have s8 := (BS1.out).at 8 _ rfl
    have s9 := (BS1.out).at 9 _ rfl
    have s10 := (BS1.out).at 10 _ rfl
    have s11 := (BS1.out).at 11 _ rfl
    have s12 := (BS1.out).at 12 _ rfl
    have s13 := (BS1.out).at 13 _ rfl
    go_wp2_with fail
    go_ret
    exact ⟨by first | rfl | simp, U1.out⟩
  have c2' : t ≤ 281474976710656 := by omega
  have hok : Jb.Jt.ok ⟨le, mo, nw, on, ze, fi, hi, dn, sp, tr, l.map TW.w, la, tw, pd⟩ := by have h9 := HVV.out.symm; unfold Jb.valid at h9; simpa using h9
  obtain ⟨_, ⟨z0, z1⟩, _, ⟨f0, f1⟩, _⟩ := hok.1
  simp only at z0 z1 f0 f1
  clear hok
  have HE : Hid (r = ze + (t - fi) / 8) := Lib.hid (by rw [HR.out]; exact play_ok HVV.out.symm c1' c2')
  go_enter Try.func22, Try.ntmps22
  go_wp2_with fail
  refine (k1.out _ U0.out).mono ?_
  rintro e w1 ⟨rfl, hb1⟩
  have U1 := Lib.hid (U0.out.later hb1)
  have BS1 := Lib.hid (BS.out.later hb1)
  clear hb1
  have s0 := (BS1.out).at 0 _ rfl
  have s1 := (BS1.out).at 1 _ rfl
  have s2 := (BS1.out).at 2 _ rfl
  have s3 := (BS1.out).at 3 _ rfl
  have s4 := (BS1.out).at 4 _ rfl
  have s5 := (BS1.out).at 5 _ rfl
  have s6 := (BS1.out).at 6 _ rfl
  have s7 := (BS1.out).at 7 _ rfl
  have s8 := (BS1.out).at 8 _ rfl
  have s9 := (BS1.out).at 9 _ rfl
  have s10 := (BS1.out).at 10 _ rfl
  have s11 := (BS1.out).at 11 _ rfl
  have s12 := (BS1.out).at 12 _ rfl
  have s13 := (BS1.out).at 13 _ rfl
  go_wp2_with fail
  refine (playTime_any le mo nw on ze fi hi dn sp tr A l.length qc la tw pd t w1 z0 z1 f0 f1 c1' c2').mono ?_
  rintro e w2 ⟨rfl, hb2⟩
  have U2 := Lib.hid (U1.out.later hb2)
  clear hb2
  go_wp2_with fail
  go_ret
  exact ⟨ret_i HE.out.symm, U2.out⟩
end Go.Proofs.Ytnaafjdnmbajjaa

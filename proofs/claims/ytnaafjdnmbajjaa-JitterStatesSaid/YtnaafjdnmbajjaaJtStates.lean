/- Layer 30, JitterStates: for every input the law returns true. -/
import Derived.Test.YtnaafjdnmbajjaaJtLv5Q
import Derived.Test.YtnaafjdnmbajjaaJtRValidQ
namespace Go.Proofs.Ytnaafjdnmbajjaa.jitterStates
open Go.RowKit
set_option linter.unusedVariables false
set_option linter.unusedSimpArgs false
attribute [local go_sem ↓] run_min_plain run_max_plain
attribute [local go_sem] setCell_drewN alloc_drewN
theorem rvalid_st (s : Jb.Jt) (A : Option Addr) (l : List TW) (n c : Nat) (w : World) (hq : l.map TW.w = s.q) (hn : l.length = n) (hl : n ≤ 100000) (hA : Wts w w.heap.size A l) (hP : ∀ a ∈ l, a.w.m.pl.length ≤ 1000000000) (v : Bool) (hv : v = Jb.valid s) : Calls Try.prog 19 #[.agg #[.int .i64 s.least, .int .i64 s.most, .int .i64 s.now, .bool s.on, .int .i64 s.zero, .int .i64 s.first, .int .i64 s.high, .int .i64 s.done, .int .i64 s.spread, .int .i64 s.trans, .slice A n c, .int .i64 s.late, .int .i64 s.twice, .int .i64 s.played]] w fun e w' => e = .returned (.bool v) ∧ Below w.heap.size w w' := by
  obtain ⟨le, mo, nw, on, ze, fi, hi, dn, sp, tr, q, la, tw, pd⟩ := s
  simp only at hq ⊢
  subst hq
  exact rvalid_any le mo nw on ze fi hi dn sp tr A l n c la tw pd w hn hl hA hP v hv
theorem playx_st (s : Jb.Jt) (A : Option Addr) (l : List TW) (n c : Nat) (t : Int) (w : World) (hq : l.map TW.w = s.q) (hn : l.length = n) (hl : n ≤ 100000) (hA : Wts w w.heap.size A l) (hK : ∀ a ∈ l, I64 a.w.m.sq) : Calls Try.prog 22 #[.agg #[.int .i64 s.least, .int .i64 s.most, .int .i64 s.now, .bool s.on, .int .i64 s.zero, .int .i64 s.first, .int .i64 s.high, .int .i64 s.done, .int .i64 s.spread, .int .i64 s.trans, .slice A n c, .int .i64 s.late, .int .i64 s.twice, .int .i64 s.played], .int .i64 t] w fun e w' => e = .returned (.int .i64 (Jb.play s t)) ∧ Below w.heap.size w w' := by
  obtain ⟨le, mo, nw, on, ze, fi, hi, dn, sp, tr, q, la, tw, pd⟩ := s
  simp only at hq ⊢
  subst hq
  exact playx_let le mo nw on ze fi hi dn sp tr A l n c la tw pd t w hn hl hA hK
theorem rplayx_st (s : Jb.Jt) (A : Option Addr) (l : List TW) (n c : Nat) (t : Int) (w : World) (hq : l.map TW.w = s.q) (hn : l.length = n) (hl : n ≤ 100000) (hA : Wts w w.heap.size A l) (hP : ∀ a ∈ l, a.w.m.pl.length ≤ 1000000000) : Calls Try.prog 23 #[.agg #[.int .i64 s.least, .int .i64 s.most, .int .i64 s.now, .bool s.on, .int .i64 s.zero, .int .i64 s.first, .int .i64 s.high, .int .i64 s.done, .int .i64 s.spread, .int .i64 s.trans, .slice A n c, .int .i64 s.late, .int .i64 s.twice, .int .i64 s.played], .int .i64 t] w fun e w' => e = .returned (.int .i64 (Jb.play s t)) ∧ Below w.heap.size w w' := by
  obtain ⟨le, mo, nw, on, ze, fi, hi, dn, sp, tr, q, la, tw, pd⟩ := s
  simp only at hq ⊢
  subst hq
  exact rplayx_let le mo nw on ze fi hi dn sp tr A l n c la tw pd t w hn hl hA hP
set_option maxRecDepth 100000 in
set_option maxHeartbeats 12800000 in
theorem walk (w : World) (a b : Int) (s : Jb.Jt) (A : Option Addr) (l : List TW) (c : Nat) (hq : l.map TW.w = s.q) (hc : l.length ≤ c) (hm : c ≤ maxLen) (hW : Wts w w.heap.size A l) (hT : ∀ a ∈ l, TW.ok w a) (t : Int) (wt : (Lit.int .i64 t).wf = true) : Calls Try.prog 7 #[.agg #[.int .i64 a, .int .i64 b], .agg #[.int .i64 s.least, .int .i64 s.most, .int .i64 s.now, .bool s.on, .int .i64 s.zero, .int .i64 s.first, .int .i64 s.high, .int .i64 s.done, .int .i64 s.spread, .int .i64 s.trans, .slice A l.length c, .int .i64 s.late, .int .i64 s.twice, .int .i64 s.played], .int .i64 t] w fun e w' => e = .returned (.bool true) ∧ Below w.heap.size w w' := by
  obtain ⟨fv, hfv⟩ : ∃ fv, fv = decide (l.length ≤ 220 ∧ ∀ a ∈ l, a.w.m.pl.length ≤ 2000) := ⟨_, rfl⟩
  have U0 := Lib.hid (((Bel.refl w).push (.cells #[.int .i64 a, .int .i64 b] 23)).push (.cells #[.int .i64 s.least, .int .i64 s.most, .int .i64 s.now, .bool s.on, .int .i64 s.zero, .int .i64 s.first, .int .i64 s.high, .int .i64 s.done, .int .i64 s.spread, .int .i64 s.trans, .slice A l.length c, .int .i64 s.late, .int .i64 s.twice, .int .i64 s.played] 26))
  have BC := Lib.hid ((Blk.new w 23 #[.int .i64 a, .int .i64 b]).push (.cells #[.int .i64 s.least, .int .i64 s.most, .int .i64 s.now, .bool s.on, .int .i64 s.zero, .int .i64 s.first, .int .i64 s.high, .int .i64 s.done, .int .i64 s.spread, .int .i64 s.trans, .slice A l.length c, .int .i64 s.late, .int .i64 s.twice, .int .i64 s.played] 26))
  have BS := Lib.hid (Blk.new1 w (.cells #[.int .i64 a, .int .i64 b] 23) 26 #[.int .i64 s.least, .int .i64 s.most, .int .i64 s.now, .bool s.on, .int .i64 s.zero, .int .i64 s.first, .int .i64 s.high, .int .i64 s.done, .int .i64 s.spread, .int .i64 s.trans, .slice A l.length c, .int .i64 s.late, .int .i64 s.twice, .int .i64 s.played])
  have HW := Lib.hid hW
  have HFV := Lib.hid hfv
  have HT := Lib.hid hT
  have HQ := Lib.hid hq
  have k1 := Lib.hid fun (W : World) (hb : Bel w W) => few_any s A l l.length c W rfl ((HW.out.below hb).more hb.size) fv hfv
  clear hW hfv hT hq
  go_enter Try.func7, Try.ntmps7
  go_wp2_with fail
  refine (k1.out _ U0.out).mono ?_
  rintro e w1 ⟨rfl, hb1⟩
  have U1 := Lib.hid (U0.out.later hb1)
  have BC1 := Lib.hid (BC.out.later hb1)
  have BS1 := Lib.hid (BS.out.later hb1)
  clear hb1
  cases fv
  · go_wp2_with fail
    refine (lives_any _).mono ?_
    rintro e w2 ⟨rfl, hb2⟩
    have U2 := Lib.hid (U1.out.later hb2)
    clear hb2
    go_wp2_with fail
    go_ret
    exact ⟨by first | rfl | simp, U2.out⟩
  have c0 := BC1.out.at 0 _ rfl
  have c1 := BC1.out.at 1 _ rfl
  go_wp2_with fail
  have k2 := Lib.hid fun W => new_any a b W
  have k3 := Lib.hid fun W => rnew_any a b W
  unfold NewR at k2 k3
  generalize Jb.new a b = N at k2 k3
  obtain ⟨sn, rn⟩ := N
  simp only [JV] at k2 k3
  refine (k2.out _).mono ?_
  rintro e w2 ⟨rfl, hb2⟩
  have U2 := Lib.hid (Bel.push (U1.out.later hb2) (.cells #[.int .i64 sn.least, .int .i64 sn.most, .int .i64 sn.now, .bool sn.on, .int .i64 sn.zero, .int .i64 sn.first, .int .i64 sn.high, .int .i64 sn.done, .int .i64 sn.spread, .int .i64 sn.trans, .slice none 0 0, .int .i64 sn.late, .int .i64 sn.twice, .int .i64 sn.played] 26))
  have BC2 := Lib.hid ((BC1.out.later hb2).push (.cells #[.int .i64 sn.least, .int .i64 sn.most, .int .i64 sn.now, .bool sn.on, .int .i64 sn.zero, .int .i64 sn.first, .int .i64 sn.high, .int .i64 sn.done, .int .i64 sn.spread, .int .i64 sn.trans, .slice none 0 0, .int .i64 sn.late, .int .i64 sn.twice, .int .i64 sn.played] 26))
  have BS2 := Lib.hid ((BS1.out.later hb2).push (.cells #[.int .i64 sn.least, .int .i64 sn.most, .int .i64 sn.now, .bool sn.on, .int .i64 sn.zero, .int .i64 sn.first, .int .i64 sn.high, .int .i64 sn.done, .int .i64 sn.spread, .int .i64 sn.trans, .slice none 0 0, .int .i64 sn.late, .int .i64 sn.twice, .int .i64 sn.played] 26))
  have BA := Lib.hid (Blk.new w2 26 #[.int .i64 sn.least, .int .i64 sn.most, .int .i64 sn.now, .bool sn.on, .int .i64 sn.zero, .int .i64 sn.first, .int .i64 sn.high, .int .i64 sn.done, .int .i64 sn.spread, .int .i64 sn.trans, .slice none 0 0, .int .i64 sn.late, .int .i64 sn.twice, .int .i64 sn.played])
  clear hb2 c0 c1 U1 BC1 BS1
  have c0 := BC2.out.at 0 _ rfl
  have c1 := BC2.out.at 1 _ rfl
  go_wp2_with fail
  refine (k3.out _).mono ?_
  rintro e w3 ⟨rfl, hb3⟩
  have U3 := Lib.hid (Bel.push (U2.out.later hb3) (.cells #[.int .i64 sn.least, .int .i64 sn.most, .int .i64 sn.now, .bool sn.on, .int .i64 sn.zero, .int .i64 sn.first, .int .i64 sn.high, .int .i64 sn.done, .int .i64 sn.spread, .int .i64 sn.trans, .slice none 0 0, .int .i64 sn.late, .int .i64 sn.twice, .int .i64 sn.played] 26))
  have BS3 := Lib.hid ((BS2.out.later hb3).push (.cells #[.int .i64 sn.least, .int .i64 sn.most, .int .i64 sn.now, .bool sn.on, .int .i64 sn.zero, .int .i64 sn.first, .int .i64 sn.high, .int .i64 sn.done, .int .i64 sn.spread, .int .i64 sn.trans, .slice none 0 0, .int .i64 sn.late, .int .i64 sn.twice, .int .i64 sn.played] 26))
  have BA3 := Lib.hid ((BA.out.later hb3).push (.cells #[.int .i64 sn.least, .int .i64 sn.most, .int .i64 sn.now, .bool sn.on, .int .i64 sn.zero, .int .i64 sn.first, .int .i64 sn.high, .int .i64 sn.done, .int .i64 sn.spread, .int .i64 sn.trans, .slice none 0 0, .int .i64 sn.late, .int .i64 sn.twice, .int .i64 sn.played] 26))
  have BB := Lib.hid (Blk.new w3 26 #[.int .i64 sn.least, .int .i64 sn.most, .int .i64 sn.now, .bool sn.on, .int .i64 sn.zero, .int .i64 sn.first, .int .i64 sn.high, .int .i64 sn.done, .int .i64 sn.spread, .int .i64 sn.trans, .slice none 0 0, .int .i64 sn.late, .int .i64 sn.twice, .int .i64 sn.played])
  clear hb3 c0 c1 U2 BC2 BS2 BA
  go_wp2_with fail
  obtain ⟨W, hWW⟩ : ∃ W, W = w3.alloc (.cells #[.int .i64 sn.least, .int .i64 sn.most, .int .i64 sn.now, .bool sn.on, .int .i64 sn.zero, .int .i64 sn.first, .int .i64 sn.high, .int .i64 sn.done, .int .i64 sn.spread, .int .i64 sn.trans, .slice none 0 0, .int .i64 sn.late, .int .i64 sn.twice, .int .i64 sn.played] 26) := ⟨_, rfl⟩
  rw [← hWW] at U3 BS3 BA3 BB ⊢
  clear hWW
  have x0 := (BA3.out).at 0 _ rfl
  have x1 := (BA3.out).at 1 _ rfl
  have x2 := (BA3.out).at 2 _ rfl
  have x3 := (BA3.out).at 3 _ rfl
  have x4 := (BA3.out).at 4 _ rfl
  have x5 := (BA3.out).at 5 _ rfl
  have x6 := (BA3.out).at 6 _ rfl
  have x7 := (BA3.out).at 7 _ rfl
  have x8 := (BA3.out).at 8 _ rfl
  have x9 := (BA3.out).at 9 _ rfl
  have x10 := (BA3.out).at 10 _ rfl
  have x11 := (BA3.out).at 11 _ rfl
  have x12 := (BA3.out).at 12 _ rfl
  have x13 := (BA3.out).at 13 _ rfl
  have y0 := (BB.out).at 0 _ rfl
  have y1 := (BB.out).at 1 _ rfl
  have y2 := (BB.out).at 2 _ rfl
  have y3 := (BB.out).at 3 _ rfl
  have y4 := (BB.out).at 4 _ rfl
  have y5 := (BB.out).at 5 _ rfl
  have y6 := (BB.out).at 6 _ rfl
  have y7 := (BB.out).at 7 _ rfl
  have y8 := (BB.out).at 8 _ rfl
  have y9 := (BB.out).at 9 _ rfl
  have y10 := (BB.out).at 10 _ rfl
  have y11 := (BB.out).at 11 _ rfl
  have y12 := (BB.out).at 12 _ rfl
  have y13 := (BB.out).at 13 _ rfl
  have z0 := (BS3.out).at 0 _ rfl
  have z1 := (BS3.out).at 1 _ rfl
  have z2 := (BS3.out).at 2 _ rfl
  have z3 := (BS3.out).at 3 _ rfl
  have z4 := (BS3.out).at 4 _ rfl
  have z5 := (BS3.out).at 5 _ rfl
  have z6 := (BS3.out).at 6 _ rfl
  have z7 := (BS3.out).at 7 _ rfl
  have z8 := (BS3.out).at 8 _ rfl
  have z9 := (BS3.out).at 9 _ rfl
  have z10 := (BS3.out).at 10 _ rfl
  have z11 := (BS3.out).at 11 _ rfl
  have z12 := (BS3.out).at 12 _ rfl
  have z13 := (BS3.out).at 13 _ rfl
  have hU : Below W.heap.size W W := Below.refl _ _
  have hlx := BA3.out.lt
  have hly := BB.out.lt
  have hlz := BS3.out.lt
  have hk : ∀ a ∈ l, I64 a.w.m.sq := fun a ha => (HT.out a ha).2.1
  have HK := Lib.hid hk
  have hsm := HFV.out
  rw [eq_comm, decide_eq_true_iff] at hsm
  have hl2 : l.length ≤ 220 := hsm.1
  have HP := Lib.hid (fun (a : TW) (ha : a ∈ l) => Nat.le_trans (hsm.2 a ha) (by omega : 2000 ≤ 1000000000))
  clear hk hsm
  have e1 := Lib.hid fun (V : World) => rsame_any sn none none [] [] 0 0 0 V rfl rfl (by omega) Wts.empty Wts.empty
  have HWW := Lib.hid fun (V : World) (hb : Below W.heap.size W V) => (HW.out.below (U3.out.later hb)).more (U3.out.later hb).size
  have e2 := Lib.hid fun (V : World) (hb : Below W.heap.size W V) => valid_st s A l l.length c V HQ.out rfl (by omega) (HWW.out V hb) HK.out (Jb.valid s) rfl
  have e3 := Lib.hid fun (V : World) (hb : Below W.heap.size W V) => rvalid_st s A l l.length c V HQ.out rfl (by omega) (HWW.out V hb) HP.out (Jb.valid s) rfl
  have e4 := Lib.hid fun (V : World) (hb : Below W.heap.size W V) => playx_st s A l l.length c t V HQ.out rfl (by omega) (HWW.out V hb) HK.out
  have e5 := Lib.hid fun (V : World) (hb : Below W.heap.size W V) => rplayx_st s A l l.length c t V HQ.out rfl (by omega) (HWW.out V hb) HP.out
  generalize Jb.valid s = vv at e2 e3
  generalize Jb.play s t = pp at e4 e5
  first
    | go_region_held3 (fun w' => Below W.heap.size W w' ∧ w'.cell? ⟨w2.heap.size, 0, none⟩ = some (.int .i64 sn.least) ∧ w'.cell? ⟨w2.heap.size, 1, none⟩ = some (.int .i64 sn.most) ∧ w'.cell? ⟨w2.heap.size, 2, none⟩ = some (.int .i64 sn.now) ∧ w'.cell? ⟨w2.heap.size, 3, none⟩ = some (.bool sn.on) ∧ w'.cell? ⟨w2.heap.size, 4, none⟩ = some (.int .i64 sn.zero) ∧ w'.cell? ⟨w2.heap.size, 5, none⟩ = some (.int .i64 sn.first) ∧ w'.cell? ⟨w2.heap.size, 6, none⟩ = some (.int .i64 sn.high) ∧ w'.cell? ⟨w2.heap.size, 7, none⟩ = some (.int .i64 sn.done) ∧ w'.cell? ⟨w2.heap.size, 8, none⟩ = some (.int .i64 sn.spread) ∧ w'.cell? ⟨w2.heap.size, 9, none⟩ = some (.int .i64 sn.trans) ∧ w'.cell? ⟨w2.heap.size, 10, none⟩ = some (.slice none 0 0) ∧ w'.cell? ⟨w2.heap.size, 11, none⟩ = some (.int .i64 sn.late) ∧ w'.cell? ⟨w2.heap.size, 12, none⟩ = some (.int .i64 sn.twice) ∧ w'.cell? ⟨w2.heap.size, 13, none⟩ = some (.int .i64 sn.played) ∧ w'.cell? ⟨w3.heap.size, 0, none⟩ = some (.int .i64 sn.least) ∧ w'.cell? ⟨w3.heap.size, 1, none⟩ = some (.int .i64 sn.most) ∧ w'.cell? ⟨w3.heap.size, 2, none⟩ = some (.int .i64 sn.now) ∧ w'.cell? ⟨w3.heap.size, 3, none⟩ = some (.bool sn.on) ∧ w'.cell? ⟨w3.heap.size, 4, none⟩ = some (.int .i64 sn.zero) ∧ w'.cell? ⟨w3.heap.size, 5, none⟩ = some (.int .i64 sn.first) ∧ w'.cell? ⟨w3.heap.size, 6, none⟩ = some (.int .i64 sn.high) ∧ w'.cell? ⟨w3.heap.size, 7, none⟩ = some (.int .i64 sn.done) ∧ w'.cell? ⟨w3.heap.size, 8, none⟩ = some (.int .i64 sn.spread) ∧ w'.cell? ⟨w3.heap.size, 9, none⟩ = some (.int .i64 sn.trans) ∧ w'.cell? ⟨w3.heap.size, 10, none⟩ = some (.slice none 0 0) ∧ w'.cell? ⟨w3.heap.size, 11, none⟩ = some (.int .i64 sn.late) ∧ w'.cell? ⟨w3.heap.size, 12, none⟩ = some (.int .i64 sn.twice) ∧ w'.cell? ⟨w3.heap.size, 13, none⟩ = some (.int .i64 sn.played) ∧ w'.cell? ⟨w.heap.size + 1, 0, none⟩ = some (.int .i64 s.least) ∧ w'.cell? ⟨w.heap.size + 1, 1, none⟩ = some (.int .i64 s.most) ∧ w'.cell? ⟨w.heap.size + 1, 2, none⟩ = some (.int .i64 s.now) ∧ w'.cell? ⟨w.heap.size + 1, 3, none⟩ = some (.bool s.on) ∧ w'.cell? ⟨w.heap.size + 1, 4, none⟩ = some (.int .i64 s.zero) ∧ w'.cell? ⟨w.heap.size + 1, 5, none⟩ = some (.int .i64 s.first) ∧ w'.cell? ⟨w.heap.size + 1, 6, none⟩ = some (.int .i64 s.high) ∧ w'.cell? ⟨w.heap.size + 1, 7, none⟩ = some (.int .i64 s.done) ∧ w'.cell? ⟨w.heap.size + 1, 8, none⟩ = some (.int .i64 s.spread) ∧ w'.cell? ⟨w.heap.size + 1, 9, none⟩ = some (.int .i64 s.trans) ∧ w'.cell? ⟨w.heap.size + 1, 10, none⟩ = some (.slice A l.length c) ∧ w'.cell? ⟨w.heap.size + 1, 11, none⟩ = some (.int .i64 s.late) ∧ w'.cell? ⟨w.heap.size + 1, 12, none⟩ = some (.int .i64 s.twice) ∧ w'.cell? ⟨w.heap.size + 1, 13, none⟩ = some (.int .i64 s.played))
        (first | (with_reducible assumption) | ((try go_split_ands); refine and_dep ?_ (fun hbX => ⟨cell_old hbX x0, cell_old hbX x1, cell_old hbX x2, cell_old hbX x3, cell_old hbX x4, cell_old hbX x5, cell_old hbX x6, cell_old hbX x7, cell_old hbX x8, cell_old hbX x9, cell_old hbX x10, cell_old hbX x11, cell_old hbX x12, cell_old hbX x13, cell_old hbX y0, cell_old hbX y1, cell_old hbX y2, cell_old hbX y3, cell_old hbX y4, cell_old hbX y5, cell_old hbX y6, cell_old hbX y7, cell_old hbX y8, cell_old hbX y9, cell_old hbX y10, cell_old hbX y11, cell_old hbX y12, cell_old hbX y13, cell_old hbX z0, cell_old hbX z1, cell_old hbX z2, cell_old hbX z3, cell_old hbX z4, cell_old hbX z5, cell_old hbX z6, cell_old hbX z7, cell_old hbX z8, cell_old hbX z9, cell_old hbX z10, cell_old hbX z11, cell_old hbX z12, cell_old hbX z13⟩); (with_reducible repeat first | assumption | exact below_old' (by assumption) (by assumption) | refine Below.drew ?_ | refine below_new_old ?_ _)))
        (first | (go_at_call 15; refine (e1.out _).mono ?_; rintro e w' ⟨rfl, hbel⟩; have hbw : Below W.heap.size W w' := below_old' hbel (by (try go_split_ands); with_reducible assumption); obtain ⟨hcc, hff⟩ := bcell hbel) | (go_at_call 10; refine (lives_any _).mono ?_; rintro e w' ⟨rfl, hbel⟩; have hbw : Below W.heap.size W w' := below_old' hbel (by (try go_split_ands); with_reducible assumption); obtain ⟨hcc, hff⟩ := bcell hbel) | (go_at_call 21; refine (e2.out _ (by (try go_split_ands); with_reducible assumption)).mono ?_; rintro e w' ⟨rfl, hbel⟩; have hbw : Below W.heap.size W w' := below_old' hbel (by (try go_split_ands); with_reducible assumption); obtain ⟨hcc, hff⟩ := bcell hbel) | (go_at_call 19; refine (e3.out _ (by (try go_split_ands); with_reducible assumption)).mono ?_; rintro e w' ⟨rfl, hbel⟩; have hbw : Below W.heap.size W w' := below_old' hbel (by (try go_split_ands); with_reducible assumption); obtain ⟨hcc, hff⟩ := bcell hbel) | (go_at_call 22; refine (e4.out _ (by (try go_split_ands); with_reducible assumption)).mono ?_; rintro e w' ⟨rfl, hbel⟩; have hbw : Below W.heap.size W w' := below_old' hbel (by (try go_split_ands); with_reducible assumption); obtain ⟨hcc, hff⟩ := bcell hbel) | (go_at_call 23; refine (e5.out _ (by (try go_split_ands); with_reducible assumption)).mono ?_; rintro e w' ⟨rfl, hbel⟩; have hbw : Below W.heap.size W w' := below_old' hbel (by (try go_split_ands); with_reducible assumption); obtain ⟨hcc, hff⟩ := bcell hbel))
    | fail
  all_goals
    have UZ := U3.out.later (w' := _) (by assumption : Below W.heap.size W _)
    go_wp2_with fail
    go_ret
    exact ⟨by first | rfl | simp, UZ⟩
end Go.Proofs.Ytnaafjdnmbajjaa.jitterStates

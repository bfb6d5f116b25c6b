/- Layer 30: Run of the program. -/
import Derived.Test.YtnaafjdnmbajjaaJtValidQ
namespace Go.Proofs.Ytnaafjdnmbajjaa
open Go.RowKit
set_option linter.unusedVariables false
set_option linter.unusedSimpArgs false
attribute [local go_sem ↓] run_min_plain run_max_plain
attribute [local go_sem] setCell_drewN alloc_drewN
/-- the cells of a state, as a value -/
def JV (s : Jb.Jt) (A : Option Addr) (n c : Nat) : Value := .agg #[.int .i64 s.least, .int .i64 s.most, .int .i64 s.now, .bool s.on, .int .i64 s.zero, .int .i64 s.first, .int .i64 s.high, .int .i64 s.done, .int .i64 s.spread, .int .i64 s.trans, .slice A n c, .int .i64 s.late, .int .i64 s.twice, .int .i64 s.played]
/-- what Run leaves -/
def JRunR (s : Jb.Jt) (now : Int) (w : World) (e : Ending) (w' : World) : Prop :=
  ∃ (A1 : Option Addr) (c1 : Nat) (l1 : List TW) (A2 : Option Addr) (c2 : Nat) (l2 : List TW), e = .returned (.tuple #[JV (Jb.run s now).1 A2 l2.length c2, .slice A1 l1.length c1, .int .u8 (Jb.run s now).2.2]) ∧ l1.map TW.w = (Jb.run s now).2.1 ∧ l2.map TW.w = (Jb.run s now).1.q ∧ Wts w' w'.heap.size A1 l1 ∧ Wts w' w'.heap.size A2 l2 ∧ l2.length ≤ c2 ∧ c2 ≤ maxLen ∧ Below w.heap.size w w' ∧ l1.length ≤ c1 ∧ c1 ≤ maxLen
theorem chk_zero {s : Jb.Jt} {now : Int} {fm : Bool} (h : Jb.chk s now fm = 0) : s.ok ∧ now ≤ 281474976710656 ∧ fm = true ∧ s.now ≤ now := by
  unfold Jb.chk at h
  split at h
  · cases h
  · rename_i h1
    split at h
    · cases h
    · rename_i h2
      refine ⟨?_, ?_, ?_, by omega⟩
      · by_cases h3 : s.ok
        · exact h3
        · exact absurd (Or.inl h3) h1
      · by_cases h3 : now ≤ 281474976710656
        · exact h3
        · exact absurd (Or.inr (Or.inl (by omega))) h1
      · cases fm
        · exact absurd (Or.inr (Or.inr rfl)) h1
        · rfl
theorem ok_small {s : Jb.Jt} {l : List TW} (h : s.ok) (hq : l.map TW.w = s.q) : l.length ≤ 200 ∧ ∀ a ∈ l, a.w.m.pl.length ≤ 1500 := by
  obtain ⟨q1, q2, _, _⟩ := (Jb.okQ_iff _ _ _).1 h.2.2.2.2
  refine ⟨by rw [← hq] at q1; simpa using q1, fun a ha => ?_⟩
  exact (q2 a.w (by rw [← hq]; exact List.mem_map.2 ⟨a, ha, rfl⟩)).1.2.2
set_option maxRecDepth 100000 in
set_option maxHeartbeats 12800000 in
theorem jrun_let (le mo nw : Int) (on : Bool) (ze fi hi dn sp tr : Int) (A : Option Addr) (l : List TW) (n qc : Nat) (la tw pd : Int) (now : Int) (w : World) (hn : l.length = n) (hl : n ≤ 100000) (hcap : n ≤ qc) (hcm : qc ≤ maxLen) (hA : Wts w w.heap.size A l) (hK : ∀ a ∈ l, I64 a.w.m.sq) : Calls Try.prog 13 #[.agg #[.int .i64 le, .int .i64 mo, .int .i64 nw, .bool on, .int .i64 ze, .int .i64 fi, .int .i64 hi, .int .i64 dn, .int .i64 sp, .int .i64 tr, .slice A n qc, .int .i64 la, .int .i64 tw, .int .i64 pd], .int .i64 now] w (JRunR ⟨le, mo, nw, on, ze, fi, hi, dn, sp, tr, l.map TW.w, la, tw, pd⟩ now w) := by
  subst hn
  obtain ⟨r, hr⟩ : ∃ r, r = Jb.chk ⟨le, mo, nw, on, ze, fi, hi, dn, sp, tr, l.map TW.w, la, tw, pd⟩ now true := ⟨_, rfl⟩
  have HR := Lib.hid hr
  have hU0 : Bel w ((w.alloc (.cells #[.int .i64 le, .int .i64 mo, .int .i64 nw, .bool on, .int .i64 ze, .int .i64 fi, .int .i64 hi, .int .i64 dn, .int .i64 sp, .int .i64 tr, .slice A l.length qc, .int .i64 la, .int .i64 tw, .int .i64 pd] 26)).alloc (.cells #[.int .i64 0, .int .i64 0, .int .i64 0, .bool false, .int .i64 0, .int .i64 0, .int .i64 0, .int .i64 0, .int .i64 0, .int .i64 0, .slice none 0 0, .int .i64 0, .int .i64 0, .int .i64 0] 26)) := ((Bel.refl w).push _).push _
  have k1 := Lib.hid fun (W : World) (hW : Bel w W) => check_any le mo nw on ze fi hi dn sp tr A l l.length qc la tw pd now 0 0 false 0 none 0 0 W rfl hl ((hA.below hW).more hW.size) hK true (by rfl) r hr
  have U0 := Lib.hid hU0
  have BS := Lib.hid ((Blk.new w 26 #[.int .i64 le, .int .i64 mo, .int .i64 nw, .bool on, .int .i64 ze, .int .i64 fi, .int .i64 hi, .int .i64 dn, .int .i64 sp, .int .i64 tr, .slice A l.length qc, .int .i64 la, .int .i64 tw, .int .i64 pd]).push (.cells #[.int .i64 0, .int .i64 0, .int .i64 0, .bool false, .int .i64 0, .int .i64 0, .int .i64 0, .int .i64 0, .int .i64 0, .int .i64 0, .slice none 0 0, .int .i64 0, .int .i64 0, .int .i64 0] 26))
  have BR := Lib.hid (Blk.new1 w (.cells #[.int .i64 le, .int .i64 mo, .int .i64 nw, .bool on, .int .i64 ze, .int .i64 fi, .int .i64 hi, .int .i64 dn, .int .i64 sp, .int .i64 tr, .slice A l.length qc, .int .i64 la, .int .i64 tw, .int .i64 pd] 26) 26 #[.int .i64 0, .int .i64 0, .int .i64 0, .bool false, .int .i64 0, .int .i64 0, .int .i64 0, .int .i64 0, .int .i64 0, .int .i64 0, .slice none 0 0, .int .i64 0, .int .i64 0, .int .i64 0])
  have HA := Lib.hid hA
  clear hr hU0 hA
  by_cases hr0 : r = 0
  rotate_left
  · have hne : (r != 0) = true := by simpa using hr0
    have HN := Lib.hid hr0
    clear hr0
    go_enter Try.func13, Try.ntmps13
    go_wp2_with fail
    refine (k1.out _ U0.out).mono ?_
    rintro e w1 ⟨rfl, hb1⟩
    have U1 := Lib.hid (U0.out.later hb1)
    have BS1 := Lib.hid (BS.out.later hb1)
    have BR1 := Lib.hid (BR.out.later hb1)
    have hs1 := BR1.out.lt
    clear hb1
    have r0 := (BR1.out).at 0 _ rfl
    have r1 := (BR1.out).at 1 _ rfl
    have r2 := (BR1.out).at 2 _ rfl
    have r3 := (BR1.out).at 3 _ rfl
    have r4 := (BR1.out).at 4 _ rfl
    have r5 := (BR1.out).at 5 _ rfl
    have r6 := (BR1.out).at 6 _ rfl
    have r7 := (BR1.out).at 7 _ rfl
    have r8 := (BR1.out).at 8 _ rfl
    have r9 := (BR1.out).at 9 _ rfl
    have r10 := (BR1.out).at 10 _ rfl
    have r11 := (BR1.out).at 11 _ rfl
    have r12 := (BR1.out).at 12 _ rfl
    have r13 := (BR1.out).at 13 _ rfl
    have rfz := BR1.out.frozen
    go_wp2_with fail
    have BF := Blk.setRow BR1.out [.int .i64 0, .int .i64 0, .int .i64 0, .bool false, .int .i64 0, .int .i64 0, .int .i64 0, .int .i64 0, .int .i64 0, .int .i64 0, .slice none 0 0, .int .i64 0, .int .i64 0, .int .i64 0] rfl
    have UF := below_setRow (g := w.heap.size + 1) (by omega) [.int .i64 0, .int .i64 0, .int .i64 0, .bool false, .int .i64 0, .int .i64 0, .int .i64 0, .int .i64 0, .int .i64 0, .int .i64 0, .slice none 0 0, .int .i64 0, .int .i64 0, .int .i64 0] _ 0 U1.out
    simp only [setRow, Nat.zero_add, Nat.reduceAdd] at BF UF
    have hrun : Jb.run ⟨le, mo, nw, on, ze, fi, hi, dn, sp, tr, l.map TW.w, la, tw, pd⟩ now = (Jb.Jt.none, [], r) := by unfold Jb.run; rw [← HR.out, if_neg HN.out]
    refine bodyPost_ret (v := .tuple #[.agg (List.toArray [.int .i64 0, .int .i64 0, .int .i64 0, .bool false, .int .i64 0, .int .i64 0, .int .i64 0, .int .i64 0, .int .i64 0, .int .i64 0, .slice none 0 0, .int .i64 0, .int .i64 0, .int .i64 0]), .slice none 0 0, .int .u8 r]) (res_ctt Try.results13 rfl (run_loadVar_row (P := Try.prog) _ _ _ _ _ _ _ BF Try.underlying26 rfl (by kernel_rfl)) rfl rfl) rfl ⟨none, 0, [], none, 0, [], ?_, ?_, ?_, Wts.empty, Wts.empty, Nat.le_refl _, by unfold maxLen; omega, UF, Nat.le_refl _, Nat.zero_le _⟩
    · rw [hrun]; rfl
    · rw [hrun]; rfl
    · rw [hrun]; rfl
  subst hr0
  obtain ⟨hok, hnow, _, hlt⟩ := chk_zero HR.out.symm
  obtain ⟨hl2, hpl⟩ := ok_small (l := l) hok rfl
  have hpd := hok.2.2.1.2.2
  simp only at hpd hlt
  have k2 := Lib.hid fun (W : World) (hW : Bel w W) => run_any le mo nw on ze fi hi dn sp tr A l l.length qc la tw pd now W rfl hl2 hcap hcm W.heap.size (Nat.le_refl _) ((HA.out.below hW).more hW.size) (fun a ha => Nat.le_trans (hpl a ha) (by omega)) (by omega)
  have hrun : Jb.run ⟨le, mo, nw, on, ze, fi, hi, dn, sp, tr, l.map TW.w, la, tw, pd⟩ now = (Jb.run0 ⟨le, mo, nw, on, ze, fi, hi, dn, sp, tr, l.map TW.w, la, tw, pd⟩ now, Jb.due now (l.map TW.w), 0) := by unfold Jb.run; rw [← HR.out, if_pos rfl]
  have HRUN := Lib.hid hrun
  clear hok hnow hlt hpd hl2 hpl hrun
  go_enter Try.func13, Try.ntmps13
  go_wp2_with fail
  refine (k1.out _ U0.out).mono ?_
  rintro e w1 ⟨rfl, hb1⟩
  have U1 := Lib.hid (U0.out.later hb1)
  have BS1 := Lib.hid (BS.out.later hb1)
  have BR1 := Lib.hid (BR.out.later hb1)
  have hs1 := BR1.out.lt
  clear hb1
  have s0 := (BS1.out).at 0 _ rfl
  have s1 := (BS1.out).at 1 _ rfl
  have s2 := (BS1.out).at 2 _ rfl
  have s3 := (BS1.out).at 3 _ rfl
  have s4 := (BS1.out).at 4 _ rfl
  have s5 := (BS1.out).at 5 _ rfl
  have s6 := (BS1.out).at 6 _ rfl
  have s7 := (BS1.out).at 7 _ rfl
  have s8 := (BS1.out).at 8 _ rfl
  have s9 := (BS1.out).at 9 _ rfl
  have s10 := (BS1.out).at 10 _ rfl
  have s11 := (BS1.out).at 11 _ rfl
  have s12 := (BS1.out).at 12 _ rfl
  have s13 := (BS1.out).at 13 _ rfl
  go_wp2_with fail
  refine (k2.out _ U1.out).mono ?_
  rintro e w2 ⟨A1, c1, l1, A2, c2, l2, B, rfl, hm1, hm2, hw1, hq2, hB1, hB2, hca, hbel⟩
  have HCA := Lib.hid hca
  clear hca
  have U2 := Lib.hid (U1.out.later hbel)
  have BS2 := Lib.hid (BS1.out.later hbel)
  have BR2 := Lib.hid (BR1.out.later hbel)
  have HM1 := Lib.hid hm1
  have HM2 := Lib.hid hm2
  have HW1 := Lib.hid hw1
  have HQ2 := Lib.hid hq2
  have hs2 := hbel.size
  clear hbel hm1 hm2 hw1 hq2 s0 s1 s2 s3 s4 s5 s6 s7 s8 s9 s10 s11 s12 s13
  have s0 := (BS2.out).at 0 _ rfl
  have s1 := (BS2.out).at 1 _ rfl
  have s2 := (BS2.out).at 2 _ rfl
  have s3 := (BS2.out).at 3 _ rfl
  have s4 := (BS2.out).at 4 _ rfl
  have s5 := (BS2.out).at 5 _ rfl
  have s6 := (BS2.out).at 6 _ rfl
  have s7 := (BS2.out).at 7 _ rfl
  have s8 := (BS2.out).at 8 _ rfl
  have s9 := (BS2.out).at 9 _ rfl
  have s10 := (BS2.out).at 10 _ rfl
  have s11 := (BS2.out).at 11 _ rfl
  have s12 := (BS2.out).at 12 _ rfl
  have s13 := (BS2.out).at 13 _ rfl
  have r0 := (BR2.out).at 0 _ rfl
  have r1 := (BR2.out).at 1 _ rfl
  have r2 := (BR2.out).at 2 _ rfl
  have r3 := (BR2.out).at 3 _ rfl
  have r4 := (BR2.out).at 4 _ rfl
  have r5 := (BR2.out).at 5 _ rfl
  have r6 := (BR2.out).at 6 _ rfl
  have r7 := (BR2.out).at 7 _ rfl
  have r8 := (BR2.out).at 8 _ rfl
  have r9 := (BR2.out).at 9 _ rfl
  have r10 := (BR2.out).at 10 _ rfl
  have r11 := (BR2.out).at 11 _ rfl
  have r12 := (BR2.out).at 12 _ rfl
  have r13 := (BR2.out).at 13 _ rfl
  have sfz := BS2.out.frozen
  have rfz := BR2.out.frozen
  go_wp2_with fail
  obtain ⟨WA, hWA⟩ : ∃ WA, WA = setRow w.heap.size w2 0 [.int .i64 le, .int .i64 mo, .int .i64 now, .bool on, .int .i64 ze, .int .i64 fi, .int .i64 hi, .int .i64 (Jb.maxSq dn (Jb.due now (l.map TW.w))), .int .i64 sp, .int .i64 tr, .slice A2 l2.length c2, .int .i64 la, .int .i64 tw, .int .i64 (pd + (Jb.due now (l.map TW.w)).length)] := ⟨_, rfl⟩
  have BA := BR2.out.farRow (g' := w.heap.size) (by omega) [.int .i64 le, .int .i64 mo, .int .i64 now, .bool on, .int .i64 ze, .int .i64 fi, .int .i64 hi, .int .i64 (Jb.maxSq dn (Jb.due now (l.map TW.w))), .int .i64 sp, .int .i64 tr, .slice A2 l2.length c2, .int .i64 la, .int .i64 tw, .int .i64 (pd + (Jb.due now (l.map TW.w)).length)] w2 0
  have UA := below_setRow (g := w.heap.size) (Nat.le_refl _) [.int .i64 le, .int .i64 mo, .int .i64 now, .bool on, .int .i64 ze, .int .i64 fi, .int .i64 hi, .int .i64 (Jb.maxSq dn (Jb.due now (l.map TW.w))), .int .i64 sp, .int .i64 tr, .slice A2 l2.length c2, .int .i64 la, .int .i64 tw, .int .i64 (pd + (Jb.due now (l.map TW.w)).length)] w2 0 U2.out
  have QA := QOwn.setRow (g := w.heap.size) (by omega) [.int .i64 le, .int .i64 mo, .int .i64 now, .bool on, .int .i64 ze, .int .i64 fi, .int .i64 hi, .int .i64 (Jb.maxSq dn (Jb.due now (l.map TW.w))), .int .i64 sp, .int .i64 tr, .slice A2 l2.length c2, .int .i64 la, .int .i64 tw, .int .i64 (pd + (Jb.due now (l.map TW.w)).length)] w2 0 HQ2.out
  have SA := setRow_size w.heap.size [.int .i64 le, .int .i64 mo, .int .i64 now, .bool on, .int .i64 ze, .int .i64 fi, .int .i64 hi, .int .i64 (Jb.maxSq dn (Jb.due now (l.map TW.w))), .int .i64 sp, .int .i64 tr, .slice A2 l2.length c2, .int .i64 la, .int .i64 tw, .int .i64 (pd + (Jb.due now (l.map TW.w)).length)] w2 0
  have W1A := WtsIn.setRow (g := w.heap.size) (lo := w1.heap.size) (by omega) [.int .i64 le, .int .i64 mo, .int .i64 now, .bool on, .int .i64 ze, .int .i64 fi, .int .i64 hi, .int .i64 (Jb.maxSq dn (Jb.due now (l.map TW.w))), .int .i64 sp, .int .i64 tr, .slice A2 l2.length c2, .int .i64 la, .int .i64 tw, .int .i64 (pd + (Jb.due now (l.map TW.w)).length)] w2 0 HW1.out
  rw [← hWA] at BA UA QA SA W1A
  have BF := Blk.setRow BA [.int .i64 le, .int .i64 mo, .int .i64 now, .bool on, .int .i64 ze, .int .i64 fi, .int .i64 hi, .int .i64 (Jb.maxSq dn (Jb.due now (l.map TW.w))), .int .i64 sp, .int .i64 tr, .slice A2 l2.length c2, .int .i64 la, .int .i64 tw, .int .i64 (pd + (Jb.due now (l.map TW.w)).length)] rfl
  have UF := below_setRow (g := w.heap.size + 1) (by omega) [.int .i64 le, .int .i64 mo, .int .i64 now, .bool on, .int .i64 ze, .int .i64 fi, .int .i64 hi, .int .i64 (Jb.maxSq dn (Jb.due now (l.map TW.w))), .int .i64 sp, .int .i64 tr, .slice A2 l2.length c2, .int .i64 la, .int .i64 tw, .int .i64 (pd + (Jb.due now (l.map TW.w)).length)] WA 0 UA
  have QF := QOwn.setRow (g := w.heap.size + 1) (by omega) [.int .i64 le, .int .i64 mo, .int .i64 now, .bool on, .int .i64 ze, .int .i64 fi, .int .i64 hi, .int .i64 (Jb.maxSq dn (Jb.due now (l.map TW.w))), .int .i64 sp, .int .i64 tr, .slice A2 l2.length c2, .int .i64 la, .int .i64 tw, .int .i64 (pd + (Jb.due now (l.map TW.w)).length)] WA 0 QA
  have SF := setRow_size (w.heap.size + 1) [.int .i64 le, .int .i64 mo, .int .i64 now, .bool on, .int .i64 ze, .int .i64 fi, .int .i64 hi, .int .i64 (Jb.maxSq dn (Jb.due now (l.map TW.w))), .int .i64 sp, .int .i64 tr, .slice A2 l2.length c2, .int .i64 la, .int .i64 tw, .int .i64 (pd + (Jb.due now (l.map TW.w)).length)] WA 0
  have W1F := WtsIn.setRow (g := w.heap.size + 1) (lo := w1.heap.size) (by omega) [.int .i64 le, .int .i64 mo, .int .i64 now, .bool on, .int .i64 ze, .int .i64 fi, .int .i64 hi, .int .i64 (Jb.maxSq dn (Jb.due now (l.map TW.w))), .int .i64 sp, .int .i64 tr, .slice A2 l2.length c2, .int .i64 la, .int .i64 tw, .int .i64 (pd + (Jb.due now (l.map TW.w)).length)] WA 0 W1A
  obtain ⟨WF, hWF⟩ : ∃ WF, WF = setRow (w.heap.size + 1) WA 0 [.int .i64 le, .int .i64 mo, .int .i64 now, .bool on, .int .i64 ze, .int .i64 fi, .int .i64 hi, .int .i64 (Jb.maxSq dn (Jb.due now (l.map TW.w))), .int .i64 sp, .int .i64 tr, .slice A2 l2.length c2, .int .i64 la, .int .i64 tw, .int .i64 (pd + (Jb.due now (l.map TW.w)).length)] := ⟨_, rfl⟩
  rw [← hWF] at BF UF QF SF W1F
  rw [hWA] at hWF
  simp only [setRow, Nat.zero_add, Nat.reduceAdd] at hWF
  rw [← hWF]
  have hcc := QF.own.cap
  have hcm2 := Owns.capm QF.own
  refine bodyPost_ret (v := .tuple #[.agg (List.toArray [.int .i64 le, .int .i64 mo, .int .i64 now, .bool on, .int .i64 ze, .int .i64 fi, .int .i64 hi, .int .i64 (Jb.maxSq dn (Jb.due now (l.map TW.w))), .int .i64 sp, .int .i64 tr, .slice A2 l2.length c2, .int .i64 la, .int .i64 tw, .int .i64 (pd + (Jb.due now (l.map TW.w)).length)]), .slice A1 l1.length c1, .int .u8 0]) (res_ctt Try.results13 rfl (run_loadVar_row (P := Try.prog) _ _ _ _ _ _ _ BF Try.underlying26 rfl (by kernel_rfl)) rfl rfl) rfl ⟨A1, c1, l1, A2, c2, l2, ?_, ?_, ?_, W1F.rows.more ?_, QF.wts, hcc, hcm2, UF, HCA.out.1, HCA.out.2⟩
  · rw [HRUN.out]; rfl
  · rw [HRUN.out]; exact HM1.out
  · rw [HRUN.out]; exact HM2.out
  · rw [SF, SA]; exact hB2
end Go.Proofs.Ytnaafjdnmbajjaa
/- Layer 30: slices.BinarySearchFunc with order. -/
namespace Go.Proofs.Ytnaafjdnmbajjaa
open Go.RowKit
set_option linter.unusedVariables false
set_option linter.unusedSimpArgs false
attribute [local go_sem ↓] run_min_plain run_max_plain
attribute [local go_sem] setCell_drewN alloc_drewN
def ordV (a : Jb.Wt) (at0 sq0 : Int) : Int := if a.at_ < at0 then -1 else if at0 < a.at_ then 1 else if a.m.sq < sq0 then -1 else if sq0 < a.m.sq then 1 else 0
theorem ordV_neg (a x : Jb.Wt) : ordV a x.at_ x.m.sq < 0 ↔ Jb.bef a x := by
  unfold ordV Jb.bef
  constructor
  · intro h
    repeat (first | (split at h) | omega)
  · intro h
    repeat (first | split | omega)
theorem ordV_ne (a x : Jb.Wt) (h : a.m.sq ≠ x.m.sq) : ordV a x.at_ x.m.sq ≠ 0 := by
  unfold ordV
  repeat (first | split | omega)
/-- where a packet's place is -/
def place (q : List Jb.Wt) (x : Jb.Wt) : Nat := (q.takeWhile fun y => decide (Jb.bef y x)).length
theorem place_of (x : Jb.Wt) : ∀ (q : List Jb.Wt) (k : Nat), k ≤ q.length → (∀ i (h : i < q.length), i < k → Jb.bef q[i] x) → (∀ i (h : i < q.length), k ≤ i → ¬Jb.bef q[i] x) → place q x = k
  | [], k, hk, _, _ => by simp at hk; subst hk; rfl
  | a :: q, 0, _, _, h2 => by
    have := h2 0 (by simp) (by omega)
    unfold place
    rw [List.takeWhile_cons, if_neg (by simpa using this)]
    rfl
  | a :: q, k + 1, hk, h1, h2 => by
    have h0 := h1 0 (by simp) (by omega)
    have ih := place_of x q k (by simpa using hk) (fun i h hi => by have := h1 (i + 1) (by simp; omega) (by omega); simpa using this) (fun i h hi => by have := h2 (i + 1) (by simp; omega) (by omega); simpa using this)
    unfold place at ih ⊢
    rw [List.takeWhile_cons, if_pos (by simpa using h0)]
    simp [ih]
theorem place_split (q : List Jb.Wt) (x : Jb.Wt) : Jb.ins q x = q.take (place q x) ++ x :: q.drop (place q x) := by
  have h : (q.takeWhile fun y => decide (Jb.bef y x)) ++ (q.dropWhile fun y => decide (Jb.bef y x)) = q := List.takeWhile_append_dropWhile
  unfold Jb.ins place
  obtain ⟨a, ha⟩ : ∃ a, a = q.takeWhile fun y => decide (Jb.bef y x) := ⟨_, rfl⟩
  obtain ⟨b, hb⟩ : ∃ b, b = q.dropWhile fun y => decide (Jb.bef y x) := ⟨_, rfl⟩
  rw [← ha, ← hb] at h ⊢
  rw [← h, List.take_left, List.drop_left]
theorem place_le (q : List Jb.Wt) (x : Jb.Wt) : place q x ≤ q.length := (List.takeWhile_prefix _).length_le
set_option maxRecDepth 100000 in
set_option maxHeartbeats 12800000 in
theorem bsearch_any (A : Option Addr) (l : List TW) (n c : Nat) (x : Jb.Wt) (B0 : Option Addr) (n0 c0 : Nat) (w : World) (hn : l.length = n) (hl : n ≤ 100000) (hA : Wts w w.heap.size A l) (hasc : (l.map TW.w).Pairwise Jb.bef) (hne : ∀ y ∈ l.map TW.w, y.m.sq ≠ x.m.sq) : Calls Try.prog 35 #[.slice A n c, .agg #[.int .i64 x.at_, .int .i64 x.m.sq, .int .i64 x.m.ti, .bool x.m.mrk, .int .u8 x.m.ty, .slice B0 n0 c0], .func (Fn.func 36) #[] #[]] w fun e w' => e = .returned (.tuple #[.int .i64 (place (l.map TW.w) x), .bool false]) ∧ Below w.heap.size w w' := by
  subst hn
  obtain ⟨P, hP⟩ : ∃ P, P = place (l.map TW.w) x := ⟨_, rfl⟩
  rw [← hP]
  have HP := Lib.hid hP
  have HA := Lib.hid hA
  have HASC := Lib.hid hasc
  have HNE := Lib.hid hne
  have HORD := Lib.hid (ordV_neg)
  obtain ⟨⟨at0, ⟨sq0, ti0, mk0, ty0, pl0⟩⟩, hX⟩ : ∃ y, y = x := ⟨x, rfl⟩
  subst hX
  simp only at HP HASC HNE ⊢
  clear hP hA hasc hne
  have BX := Lib.hid (Blk.new w 50 #[.int .i64 at0, .int .i64 sq0, .int .i64 ti0, .bool mk0, .int .u8 ty0, .slice B0 n0 c0])
  have U0 := Lib.hid ((Bel.refl w).push (.cells #[.int .i64 at0, .int .i64 sq0, .int .i64 ti0, .bool mk0, .int .u8 ty0, .slice B0 n0 c0] 50))
  go_enter Try.func35, Try.ntmps35
  go_wp2_with fail
  go_loopg [9, 10] l.length (fun gk i j wr => ∃ a b : Nat, gk = b - a ∧ i = .int .i64 a ∧ j = .int .i64 b ∧ a ≤ b ∧ b ≤ l.length ∧ Hid (∀ k (h : k < (l.map TW.w).length), k < a → Jb.bef (l.map TW.w)[k] ⟨at0, ⟨sq0, ti0, mk0, ty0, pl0⟩⟩) ∧ Hid (∀ k (h : k < (l.map TW.w).length), b ≤ k → ¬Jb.bef (l.map TW.w)[k] ⟨at0, ⟨sq0, ti0, mk0, ty0, pl0⟩⟩) ∧ Hid (Blk wr w.heap.size 50 #[.int .i64 at0, .int .i64 sq0, .int .i64 ti0, .bool mk0, .int .u8 ty0, .slice B0 n0 c0]) ∧ Hid (Bel w wr))
  case atStart => exact ⟨0, l.length, rfl, rfl, rfl, by omega, by omega, Lib.hid (fun k h hk => absurd hk (by omega)), Lib.hid (fun k h hk => absurd h (by simp; omega)), BX, U0⟩
  case round =>
    obtain ⟨a, b, hgk, rfl, rfl, hab, hbn, HL, HG, BXr, U⟩ := hrel
    have ha0 : (0 : Int) ≤ (a : Int) := by omega
    have hb0 : (0 : Int) ≤ (b : Int) := by omega
    have hb1 : (b : Int) ≤ (l.length : Int) := by omega
    by_cases hlt : a < b
    rotate_left
    · obtain rfl : a = b := by omega
      have hpp : P = a := by rw [HP.out]; exact place_of _ _ a (by simp; omega) HL.out HG.out
      subst hpp
      by_cases han : P < l.length
      rotate_left
      · obtain rfl : P = l.length := by omega
        have hd1 : decide ((l.length : Int) < (l.length : Int)) = false := by simp
        go_wp2_with fail
        go_quiet (fail)
        go_wp2_with fail
        go_ret2
        exact ⟨by first | rfl | simp, U.out.drewN _⟩
      have han1 : (P : Int) < (l.length : Int) := by omega
      have hle : (P : Int) ≤ (P : Int) := Int.le_refl _
      obtain ⟨a9, ha9⟩ : ∃ a, l[P]? = some a := ⟨_, List.getElem?_eq_getElem (by omega)⟩
      obtain ⟨bq, oq, rfl, hbq, q0, q1, q2, q3, q4, q5⟩ := rowsW (HA.out.1.keep (fun p hp => U.out.cell hp)) ha9
      have hm9 : (l.map TW.w)[P]? = some a9.w := by rw [List.getElem?_map, ha9]; rfl
      have HM9 := Lib.hid hm9
      obtain ⟨⟨at9, ⟨sq9, ti9, mk9, ty9, pl9⟩⟩, B9, c9⟩ := a9
      simp only at q0 q1 q2 q3 q4 q5 HM9
      clear ha9 hm9
      have k2 := Lib.hid fun W => order_any at9 sq9 ti9 ty9 at0 sq0 ti0 ty0 mk9 mk0 B9 B0 pl9.length c9 n0 c0 W
      obtain ⟨R, hR⟩ : ∃ R : Int, R = if at9 < at0 then -1 else if at0 < at9 then 1 else if sq9 < sq0 then -1 else if sq0 < sq9 then 1 else 0 := ⟨_, rfl⟩
      rw [← hR] at k2
      have HR : Hid (R = ordV ⟨at9, ⟨sq9, ti9, mk9, ty9, pl9⟩⟩ at0 sq0) := Lib.hid hR
      clear hR
      have f0 := BXr.out.at 0 _ rfl
      have f1 := BXr.out.at 1 _ rfl
      have f2 := BXr.out.at 2 _ rfl
      have f3 := BXr.out.at 3 _ rfl
      have f4 := BXr.out.at 4 _ rfl
      have f5 := BXr.out.at 5 _ rfl
      have hbx := BXr.out.lt
      have hU : Below wr.heap.size wr wr := Below.refl _ _
      have hd1 : decide ((P : Int) < (l.length : Int)) = true := by simpa using han
      have hRn : (R == 0) = false := by
        have h7 := ordV_ne ⟨at9, ⟨sq9, ti9, mk9, ty9, pl9⟩⟩ ⟨at0, ⟨sq0, ti0, mk0, ty0, pl0⟩⟩ (HNE.out _ (List.mem_of_getElem? HM9.out))
        rw [← HR.out] at h7
        simpa using h7
      go_wp2_with fail
      go_region_held3 (fun w' => Below wr.heap.size wr w' ∧ w'.cell? ⟨w.heap.size, 0, none⟩ = some (.int .i64 at0) ∧ w'.cell? ⟨w.heap.size, 1, none⟩ = some (.int .i64 sq0) ∧ w'.cell? ⟨w.heap.size, 2, none⟩ = some (.int .i64 ti0) ∧ w'.cell? ⟨w.heap.size, 3, none⟩ = some (.bool mk0) ∧ w'.cell? ⟨w.heap.size, 4, none⟩ = some (.int .u8 ty0) ∧ w'.cell? ⟨w.heap.size, 5, none⟩ = some (.slice B0 n0 c0) ∧ w'.cell? ⟨bq, oq + P * 6, none⟩ = some (.int .i64 at9) ∧ w'.cell? ⟨bq, oq + P * 6 + 1, none⟩ = some (.int .i64 sq9) ∧ w'.cell? ⟨bq, oq + P * 6 + 2, none⟩ = some (.int .i64 ti9) ∧ w'.cell? ⟨bq, oq + P * 6 + 3, none⟩ = some (.bool mk9) ∧ w'.cell? ⟨bq, oq + P * 6 + 4, none⟩ = some (.int .u8 ty9) ∧ w'.cell? ⟨bq, oq + P * 6 + 5, none⟩ = some (.slice B9 pl9.length c9))
        (first | assumption | ((try go_split_ands); refine and_dep ?_ (fun hbX => ⟨cell_old hbX f0, cell_old hbX f1, cell_old hbX f2, cell_old hbX f3, cell_old hbX f4, cell_old hbX f5, cell_old hbX q0, cell_old hbX q1, cell_old hbX q2, cell_old hbX q3, cell_old hbX q4, cell_old hbX q5⟩); (with_reducible repeat first | assumption | exact below_old' (by assumption) (by assumption) | refine Below.drew ?_ | refine below_new_old ?_ _)))
        (first | (go_at_call 36; refine (k2.out _).mono ?_; rintro e w' ⟨rfl, hbel⟩; have hbw : Below wr.heap.size wr w' := below_old' hbel (by (try go_split_ands); assumption); obtain ⟨hcc, hff⟩ := bcell hbel))
      all_goals
        have UZ := Lib.hid (U.out.later hbw)
        have BZ := Lib.hid (BXr.out.later hbw)
        clear hcc hff hbw hbel q0 q1 q2 q3 q4 q5 f0 f1 f2 f3 f4 f5 hU
        go_wp2_with fail
        go_ret2
        exact ⟨by first | rfl | simp, UZ.out⟩
    obtain ⟨h, hh⟩ : ∃ h, h = (a + b) / 2 := ⟨_, rfl⟩
    have he : ((a : Int) + (b : Int)) / 2 = (h : Int) := by omega
    have hh0 : (0 : Int) ≤ (h : Int) := by omega
    have hh1 : (h : Int) < (l.length : Int) := by omega
    have hlt1 : (a : Int) < (b : Int) := by omega
    have hah : a ≤ h := by omega
    have hhb : h < b := by omega
    clear hh
    go_wp2_with fail
    obtain ⟨a9, ha9⟩ : ∃ a, l[h]? = some a := ⟨_, List.getElem?_eq_getElem (by omega)⟩
    obtain ⟨bq, oq, rfl, hbq, q0, q1, q2, q3, q4, q5⟩ := rowsW (HA.out.1.keep (fun p hp => U.out.cell hp)) ha9
    have hm9 : (l.map TW.w)[h]? = some a9.w := by rw [List.getElem?_map, ha9]; rfl
    have HM9 := Lib.hid hm9
    obtain ⟨⟨at9, ⟨sq9, ti9, mk9, ty9, pl9⟩⟩, B9, c9⟩ := a9
    simp only at q0 q1 q2 q3 q4 q5 HM9
    clear ha9 hm9
    have k2 := Lib.hid fun W => order_any at9 sq9 ti9 ty9 at0 sq0 ti0 ty0 mk9 mk0 B9 B0 pl9.length c9 n0 c0 W
    obtain ⟨R, hR⟩ : ∃ R : Int, R = if at9 < at0 then -1 else if at0 < at9 then 1 else if sq9 < sq0 then -1 else if sq0 < sq9 then 1 else 0 := ⟨_, rfl⟩
    rw [← hR] at k2
    have HR : Hid (R = ordV ⟨at9, ⟨sq9, ti9, mk9, ty9, pl9⟩⟩ at0 sq0) := Lib.hid hR
    clear hR
    have f0 := BXr.out.at 0 _ rfl
    have f1 := BXr.out.at 1 _ rfl
    have f2 := BXr.out.at 2 _ rfl
    have f3 := BXr.out.at 3 _ rfl
    have f4 := BXr.out.at 4 _ rfl
    have f5 := BXr.out.at 5 _ rfl
    have hbx := BXr.out.lt
    have hU : Below wr.heap.size wr wr := Below.refl _ _
    go_region_held3 (fun w' => Below wr.heap.size wr w' ∧ w'.cell? ⟨w.heap.size, 0, none⟩ = some (.int .i64 at0) ∧ w'.cell? ⟨w.heap.size, 1, none⟩ = some (.int .i64 sq0) ∧ w'.cell? ⟨w.heap.size, 2, none⟩ = some (.int .i64 ti0) ∧ w'.cell? ⟨w.heap.size, 3, none⟩ = some (.bool mk0) ∧ w'.cell? ⟨w.heap.size, 4, none⟩ = some (.int .u8 ty0) ∧ w'.cell? ⟨w.heap.size, 5, none⟩ = some (.slice B0 n0 c0) ∧ w'.cell? ⟨bq, oq + h * 6, none⟩ = some (.int .i64 at9) ∧ w'.cell? ⟨bq, oq + h * 6 + 1, none⟩ = some (.int .i64 sq9) ∧ w'.cell? ⟨bq, oq + h * 6 + 2, none⟩ = some (.int .i64 ti9) ∧ w'.cell? ⟨bq, oq + h * 6 + 3, none⟩ = some (.bool mk9) ∧ w'.cell? ⟨bq, oq + h * 6 + 4, none⟩ = some (.int .u8 ty9) ∧ w'.cell? ⟨bq, oq + h * 6 + 5, none⟩ = some (.slice B9 pl9.length c9))
      (first | assumption | ((try go_split_ands); refine and_dep ?_ (fun hbX => ⟨cell_old hbX f0, cell_old hbX f1, cell_old hbX f2, cell_old hbX f3, cell_old hbX f4, cell_old hbX f5, cell_old hbX q0, cell_old hbX q1, cell_old hbX q2, cell_old hbX q3, cell_old hbX q4, cell_old hbX q5⟩); (with_reducible repeat first | assumption | exact below_old' (by assumption) (by assumption) | refine Below.drew ?_ | refine below_new_old ?_ _)))
      (first | (go_at_call 36; refine (k2.out _).mono ?_; rintro e w' ⟨rfl, hbel⟩; have hbw : Below wr.heap.size wr w' := below_old' hbel (by (try go_split_ands); assumption); obtain ⟨hcc, hff⟩ := bcell hbel))
    all_goals
      have UZ := Lib.hid (U.out.later hbw)
      have BZ := Lib.hid (BXr.out.later hbw)
      clear hcc hff hbw hbel q0 q1 q2 q3 q4 q5 f0 f1 f2 f3 f4 f5 hU
      have hdo : Jb.bef ((l.map TW.w)[h]'(by simp; omega)) ⟨at0, ⟨sq0, ti0, mk0, ty0, pl0⟩⟩ ↔ R < 0 := by
        have h7 := (List.getElem?_eq_some_iff.1 HM9.out).2
        rw [h7, HR.out]
        exact (ordV_neg ⟨at9, ⟨sq9, ti9, mk9, ty9, pl9⟩⟩ ⟨at0, ⟨sq0, ti0, mk0, ty0, pl0⟩⟩).symm
      have HDO := Lib.hid hdo
      clear hdo
      by_cases hR0 : R < 0
      · go_wp2_with fail
        go_roundg (b - (h + 1))
        case measure => omega
        case rel =>
          refine ⟨h + 1, b, rfl, by go_num, rfl, by omega, hbn, Lib.hid (fun k hk hk2 => ?_), HG, BZ, UZ⟩
          by_cases hk3 : k = h
          · subst hk3; exact HDO.out.2 hR0
          · exact Jb.bef_trans (List.pairwise_iff_getElem.1 HASC.out k h hk (by simp; omega) (by omega)) (HDO.out.2 hR0)
      · have hR1 : 0 ≤ R := by omega
        go_wp2_with fail
        go_roundg (h - a)
        case measure => omega
        case rel =>
          refine ⟨a, h, rfl, rfl, rfl, by omega, by omega, HL, Lib.hid (fun k hk hk2 hbef => ?_), BZ, UZ⟩
          by_cases hk3 : k = h
          · subst hk3; exact absurd (HDO.out.1 hbef) (by omega)
          · exact absurd (HDO.out.1 (Jb.bef_trans (List.pairwise_iff_getElem.1 HASC.out h k (by simp; omega) hk (by omega)) hbef)) (by omega)
end Go.Proofs.Ytnaafjdnmbajjaa

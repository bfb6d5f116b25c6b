/- Layer 30: Put of the reference, one way. -/
import Derived.Test.YtnaafjdnmbajjaaJtRRunQ
import Derived.Deep.RegionHeld3
import Derived.BigQuiet
import Derived.Deep.QuietTactic
import Derived.RegionTactic
namespace Go.Proofs.Ytnaafjdnmbajjaa
open Go.RowKit
set_option linter.unusedVariables false
set_option linter.unusedSimpArgs false
attribute [local go_sem ↓] run_min_plain run_max_plain
attribute [local go_sem] setCell_drewN alloc_drewN
set_option maxRecDepth 100000 in
set_option maxHeartbeats 12800000 in
theorem rput_full1 (le mo nw : Int) (ze fi hi dn sp tr : Int) (A : Option Addr) (l : List TW) (n qc : Nat) (la tw pd : Int) (now : Int) (sq ti : Int) (mk : Bool) (ty : Int) (MA : Option Addr) (mn mc : Nat) (pl : List Int) (w : World) (hn : l.length = n) (hmn : pl.length = mn) (hl : n ≤ 100000) (hm9 : mn ≤ 100000) (hcap : n ≤ qc) (hcm : qc ≤ maxLen) (hA : Wts w w.heap.size A l) (hP : ∀ a ∈ l, a.w.m.pl.length ≤ 1000000000) (hMI : IntsAt w w.heap.size .u8 MA pl) (hr0 : Jb.chk ⟨le, mo, nw, true, ze, fi, hi, dn, sp, tr, l.map TW.w, la, tw, pd⟩ now (decide (Jb.Md.ok ⟨sq, ti, mk, ty, pl⟩)) = 0) (hany : ((Jb.run0 ⟨le, mo, nw, true, ze, fi, hi, dn, sp, tr, l.map TW.w, la, tw, pd⟩ now).q.any fun w => w.m.sq == sq) = false) (hls : (Jb.run0 ⟨le, mo, nw, true, ze, fi, hi, dn, sp, tr, l.map TW.w, la, tw, pd⟩ now).done < sq) (hfull : 200 ≤ (Jb.run0 ⟨le, mo, nw, true, ze, fi, hi, dn, sp, tr, l.map TW.w, la, tw, pd⟩ now).q.length) : Calls Try.prog 12 #[.agg #[.int .i64 le, .int .i64 mo, .int .i64 nw, .bool true, .int .i64 ze, .int .i64 fi, .int .i64 hi, .int .i64 dn, .int .i64 sp, .int .i64 tr, .slice A n qc, .int .i64 la, .int .i64 tw, .int .i64 pd], .int .i64 now, .agg #[.int .i64 sq, .int .i64 ti, .bool mk, .int .u8 ty, .slice MA mn mc]] w (JPutR ⟨le, mo, nw, true, ze, fi, hi, dn, sp, tr, l.map TW.w, la, tw, pd⟩ now ⟨sq, ti, mk, ty, pl⟩ w) := by
  subst hn
  subst hmn
  obtain ⟨r, hr⟩ : ∃ r, r = Jb.chk ⟨le, mo, nw, true, ze, fi, hi, dn, sp, tr, l.map TW.w, la, tw, pd⟩ now (decide (Jb.Md.ok ⟨sq, ti, mk, ty, pl⟩)) := ⟨_, rfl⟩
  rw [← hr] at hr0
  subst hr0
  have HR := Lib.hid hr
  obtain ⟨fm, hfm0⟩ : ∃ fm, fm = decide (Jb.Md.ok ⟨sq, ti, mk, ty, pl⟩) := ⟨_, rfl⟩
  have k0 := Lib.hid fun W => rformed_any sq ti mk ty MA pl.length mc W (by omega) fm (by rw [hfm0]; rfl)
  rw [← hfm0] at hr
  have k1 := Lib.hid fun (W : World) (hW : Bel w W) => rcheck_any le mo nw true ze fi hi dn sp tr A l l.length qc la tw pd now fm W rfl hl ((hA.below hW).more hW.size) hP 0 hr
  have U0 := Lib.hid ((((Bel.refl w).push (.cells #[.int .i64 le, .int .i64 mo, .int .i64 nw, .bool true, .int .i64 ze, .int .i64 fi, .int .i64 hi, .int .i64 dn, .int .i64 sp, .int .i64 tr, .slice A l.length qc, .int .i64 la, .int .i64 tw, .int .i64 pd] 26)).push (.cells #[.int .i64 sq, .int .i64 ti, .bool mk, .int .u8 ty, .slice MA pl.length mc] 29)).push (.cells #[.int .i64 0, .int .i64 0, .int .i64 0, .bool false, .int .i64 0, .int .i64 0, .int .i64 0, .int .i64 0, .int .i64 0, .int .i64 0, .slice none 0 0, .int .i64 0, .int .i64 0, .int .i64 0] 26))
  have BS := Lib.hid (((Blk.new w 26 #[.int .i64 le, .int .i64 mo, .int .i64 nw, .bool true, .int .i64 ze, .int .i64 fi, .int .i64 hi, .int .i64 dn, .int .i64 sp, .int .i64 tr, .slice A l.length qc, .int .i64 la, .int .i64 tw, .int .i64 pd]).push (.cells #[.int .i64 sq, .int .i64 ti, .bool mk, .int .u8 ty, .slice MA pl.length mc] 29)).push (.cells #[.int .i64 0, .int .i64 0, .int .i64 0, .bool false, .int .i64 0, .int .i64 0, .int .i64 0, .int .i64 0, .int .i64 0, .int .i64 0, .slice none 0 0, .int .i64 0, .int .i64 0, .int .i64 0] 26))
  have BM := Lib.hid ((Blk.new1 w (.cells #[.int .i64 le, .int .i64 mo, .int .i64 nw, .bool true, .int .i64 ze, .int .i64 fi, .int .i64 hi, .int .i64 dn, .int .i64 sp, .int .i64 tr, .slice A l.length qc, .int .i64 la, .int .i64 tw, .int .i64 pd] 26) 29 #[.int .i64 sq, .int .i64 ti, .bool mk, .int .u8 ty, .slice MA pl.length mc]).push (.cells #[.int .i64 0, .int .i64 0, .int .i64 0, .bool false, .int .i64 0, .int .i64 0, .int .i64 0, .int .i64 0, .int .i64 0, .int .i64 0, .slice none 0 0, .int .i64 0, .int .i64 0, .int .i64 0] 26))
  have BR : Hid (Blk (((w.alloc (.cells #[.int .i64 le, .int .i64 mo, .int .i64 nw, .bool true, .int .i64 ze, .int .i64 fi, .int .i64 hi, .int .i64 dn, .int .i64 sp, .int .i64 tr, .slice A l.length qc, .int .i64 la, .int .i64 tw, .int .i64 pd] 26)).alloc (.cells #[.int .i64 sq, .int .i64 ti, .bool mk, .int .u8 ty, .slice MA pl.length mc] 29)).alloc (.cells #[.int .i64 0, .int .i64 0, .int .i64 0, .bool false, .int .i64 0, .int .i64 0, .int .i64 0, .int .i64 0, .int .i64 0, .int .i64 0, .slice none 0 0, .int .i64 0, .int .i64 0, .int .i64 0] 26)) (w.heap.size + 1 + 1) 26 #[.int .i64 0, .int .i64 0, .int .i64 0, .bool false, .int .i64 0, .int .i64 0, .int .i64 0, .int .i64 0, .int .i64 0, .int .i64 0, .slice none 0 0, .int .i64 0, .int .i64 0, .int .i64 0]) := Lib.hid (by have h9 := Blk.new ((w.alloc (.cells #[.int .i64 le, .int .i64 mo, .int .i64 nw, .bool true, .int .i64 ze, .int .i64 fi, .int .i64 hi, .int .i64 dn, .int .i64 sp, .int .i64 tr, .slice A l.length qc, .int .i64 la, .int .i64 tw, .int .i64 pd] 26)).alloc (.cells #[.int .i64 sq, .int .i64 ti, .bool mk, .int .u8 ty, .slice MA pl.length mc] 29)) 26 #[.int .i64 0, .int .i64 0, .int .i64 0, .bool false, .int .i64 0, .int .i64 0, .int .i64 0, .int .i64 0, .int .i64 0, .int .i64 0, .slice none 0 0, .int .i64 0, .int .i64 0, .int .i64 0]; rw [size_alloc2] at h9; exact h9)
  have HA := Lib.hid hA
  have HMI := Lib.hid hMI
  have HP := Lib.hid hP
  clear hr hA hMI hP hfm0
  obtain ⟨hok, hnow, hfm, hlt⟩ := chk_zero HR.out.symm
  rw [decide_eq_true_iff] at hfm
  obtain ⟨hl2, hpl⟩ := ok_small (l := l) hok rfl
  obtain ⟨⟨z0, z1⟩, ⟨f0, f1⟩, hoq⟩ := put_facts _ ⟨sq, ti, mk, ty, pl⟩ now hok hfm hlt hnow
  have hrun : Jb.run ⟨le, mo, nw, true, ze, fi, hi, dn, sp, tr, l.map TW.w, la, tw, pd⟩ now = (Jb.run0 ⟨le, mo, nw, true, ze, fi, hi, dn, sp, tr, l.map TW.w, la, tw, pd⟩ now, Jb.due now (l.map TW.w), 0) := by unfold Jb.run; rw [Jb.chk_run hok hlt hnow, if_pos rfl]
  have HRUN := Lib.hid hrun
  have k2 := Lib.hid fun (W : World) (hW : Bel w W) => rrun_let le mo nw true ze fi hi dn sp tr A l l.length qc la tw pd now W rfl hl hcap hcm ((HA.out.below hW).more hW.size) HP.out
  obtain ⟨⟨⟨n0, n1⟩, _, ⟨t0, t1⟩, _, _, _, ⟨sb0, sb1⟩⟩, ⟨cf0, cf1, cf2⟩, ⟨⟨la0, la1⟩, ⟨tw0, tw1⟩, _⟩, _, _⟩ := hok
  obtain ⟨⟨q0, q1⟩, ⟨ti0, ti1⟩, pl0⟩ := hfm
  simp only at n0 n1 t0 t1 sb0 sb1 cf0 cf1 cf2 la0 la1 tw0 tw1 q0 q1 ti0 ti1 pl0 hlt
  have hnow0 : 0 ≤ now := by omega
  have hput : Jb.put ⟨le, mo, nw, true, ze, fi, hi, dn, sp, tr, l.map TW.w, la, tw, pd⟩ now ⟨sq, ti, mk, ty, pl⟩ = ((Jb.put0 (Jb.run0 ⟨le, mo, nw, true, ze, fi, hi, dn, sp, tr, l.map TW.w, la, tw, pd⟩ now) ⟨sq, ti, mk, ty, pl⟩).1, Jb.due now (l.map TW.w), (Jb.put0 (Jb.run0 ⟨le, mo, nw, true, ze, fi, hi, dn, sp, tr, l.map TW.w, la, tw, pd⟩ now) ⟨sq, ti, mk, ty, pl⟩).2, 0) := by unfold Jb.put; rw [← HR.out, if_pos rfl]
  have HPUT := Lib.hid hput
  have HOQ := Lib.hid hoq
  have HANY := Lib.hid hany
  have HLS := Lib.hid hls
  have HFULL := Lib.hid hfull
  clear hlt hl2 hpl hput hoq z0 z1 f0 f1 n0 n1 hrun hany hls hfull
  go_enter Try.func12, Try.ntmps12
  go_wp2_with fail
  obtain ⟨wx, hwx⟩ : ∃ W, W = (((w.alloc (.cells #[.int .i64 le, .int .i64 mo, .int .i64 nw, .bool true, .int .i64 ze, .int .i64 fi, .int .i64 hi, .int .i64 dn, .int .i64 sp, .int .i64 tr, .slice A l.length qc, .int .i64 la, .int .i64 tw, .int .i64 pd] 26)).alloc (.cells #[.int .i64 sq, .int .i64 ti, .bool mk, .int .u8 ty, .slice MA pl.length mc] 29)).alloc (.cells #[.int .i64 0, .int .i64 0, .int .i64 0, .bool false, .int .i64 0, .int .i64 0, .int .i64 0, .int .i64 0, .int .i64 0, .int .i64 0, .slice none 0 0, .int .i64 0, .int .i64 0, .int .i64 0] 26)) := ⟨_, rfl⟩
  rw [← hwx] at U0 BS BM BR ⊢
  clear hwx
  obtain ⟨s0, s1, s2, s3, s4, s5, s6, s7, s8, s9, s10, s11, s12, s13⟩ := Blk.c14 BS.out
  obtain ⟨m0, m1, m2, m3, m4⟩ := Blk.c5 BM.out
  have hU : Below wx.heap.size wx wx := Below.refl _ _
  have hlr := BR.out.lt
  refine wp_region_held_drew (S := fun w' => Below wx.heap.size wx w' ∧ w'.cell? ⟨w.heap.size, 0, none⟩ = some (.int .i64 le) ∧ w'.cell? ⟨w.heap.size, 1, none⟩ = some (.int .i64 mo) ∧ w'.cell? ⟨w.heap.size, 2, none⟩ = some (.int .i64 nw) ∧ w'.cell? ⟨w.heap.size, 3, none⟩ = some (.bool true) ∧ w'.cell? ⟨w.heap.size, 4, none⟩ = some (.int .i64 ze) ∧ w'.cell? ⟨w.heap.size, 5, none⟩ = some (.int .i64 fi) ∧ w'.cell? ⟨w.heap.size, 6, none⟩ = some (.int .i64 hi) ∧ w'.cell? ⟨w.heap.size, 7, none⟩ = some (.int .i64 dn) ∧ w'.cell? ⟨w.heap.size, 8, none⟩ = some (.int .i64 sp) ∧ w'.cell? ⟨w.heap.size, 9, none⟩ = some (.int .i64 tr) ∧ w'.cell? ⟨w.heap.size, 10, none⟩ = some (.slice A l.length qc) ∧ w'.cell? ⟨w.heap.size, 11, none⟩ = some (.int .i64 la) ∧ w'.cell? ⟨w.heap.size, 12, none⟩ = some (.int .i64 tw) ∧ w'.cell? ⟨w.heap.size, 13, none⟩ = some (.int .i64 pd) ∧ w'.cell? ⟨w.heap.size + 1, 0, none⟩ = some (.int .i64 sq) ∧ w'.cell? ⟨w.heap.size + 1, 1, none⟩ = some (.int .i64 ti) ∧ w'.cell? ⟨w.heap.size + 1, 2, none⟩ = some (.bool mk) ∧ w'.cell? ⟨w.heap.size + 1, 3, none⟩ = some (.int .u8 ty) ∧ w'.cell? ⟨w.heap.size + 1, 4, none⟩ = some (.slice MA pl.length mc)) (by kernel_rfl) ?_ (fun hHeld => ?_)
  · (first | assumption | ((try go_split_ands); refine and_dep ?_ (fun hbX => ⟨cell_old hbX s0, cell_old hbX s1, cell_old hbX s2, cell_old hbX s3, cell_old hbX s4, cell_old hbX s5, cell_old hbX s6, cell_old hbX s7, cell_old hbX s8, cell_old hbX s9, cell_old hbX s10, cell_old hbX s11, cell_old hbX s12, cell_old hbX s13, cell_old hbX m0, cell_old hbX m1, cell_old hbX m2, cell_old hbX m3, cell_old hbX m4⟩); (with_reducible repeat first | assumption | exact below_old' (by assumption) (by assumption) | refine Below.drew ?_ | refine below_new_old ?_ _)))
  first
    | (refine tk1 (i := 0) (v := ?_) rfl (Or.inl ⟨by rfl, ?_⟩) (by assumption) ?_
       rotate_left
       · (intro w hSw; (try dsimp only at hSw); go_simp; try with_reducible rfl))
    | refine tk1 (i := 0) (v := undef) rfl (Or.inr ⟨by rfl, rfl⟩) (by assumption) ?_
  try simp only [List.getElem_toArray, List.getElem_cons_zero, List.getElem_cons_succ, Act.put, List.setIfInBounds_toArray, List.set_cons_zero, List.set_cons_succ]
  first
    | (refine tk1 (i := 1) (v := ?_) rfl (Or.inl ⟨by rfl, ?_⟩) (by assumption) ?_
       rotate_left
       · (intro w hSw; (try dsimp only at hSw); go_simp; try with_reducible rfl))
    | refine tk1 (i := 1) (v := undef) rfl (Or.inr ⟨by rfl, rfl⟩) (by assumption) ?_
  try simp only [List.getElem_toArray, List.getElem_cons_zero, List.getElem_cons_succ, Act.put, List.setIfInBounds_toArray, List.set_cons_zero, List.set_cons_succ]
  first
    | (refine tk1 (i := 2) (v := ?_) rfl (Or.inl ⟨by rfl, ?_⟩) (by assumption) ?_
       rotate_left
       · (intro w hSw; (try dsimp only at hSw); go_simp; try with_reducible rfl))
    | refine tk1 (i := 2) (v := undef) rfl (Or.inr ⟨by rfl, rfl⟩) (by assumption) ?_
  try simp only [List.getElem_toArray, List.getElem_cons_zero, List.getElem_cons_succ, Act.put, List.setIfInBounds_toArray, List.set_cons_zero, List.set_cons_succ]
  refine wpAnyH_ready (rs := [3]) (by kernel_rfl) (by simp) ?_
  refine AllReadyH.cons (o := _) rfl (fun K hK => ?_) ?_
  rotate_left
  · exact AllReadyH.nil
  go_simp
  (go_at_call 25; refine (k0.out _).mono ?_; rintro e w' ⟨rfl, hbel⟩; have hbw : Below wx.heap.size wx w' := below_old' hbel (by (try go_split_ands); assumption); obtain ⟨hcc, hff⟩ := bcell hbel)
  refine hK.out _ _ ?_ (fun hHeld => ?_)
  · (try dsimp only)
    (first | assumption | ((try go_split_ands); refine and_dep ?_ (fun hbX => ⟨cell_old hbX s0, cell_old hbX s1, cell_old hbX s2, cell_old hbX s3, cell_old hbX s4, cell_old hbX s5, cell_old hbX s6, cell_old hbX s7, cell_old hbX s8, cell_old hbX s9, cell_old hbX s10, cell_old hbX s11, cell_old hbX s12, cell_old hbX s13, cell_old hbX m0, cell_old hbX m1, cell_old hbX m2, cell_old hbX m3, cell_old hbX m4⟩); (with_reducible repeat first | assumption | exact below_old' (by assumption) (by assumption) | refine Below.drew ?_ | refine below_new_old ?_ _)))
  clear hK K
  try simp only [List.getElem_toArray, List.getElem_cons_zero, List.getElem_cons_succ, Act.put, List.setIfInBounds_toArray, List.set_cons_zero, List.set_cons_succ]
  refine wpAnyH_ready (rs := [4]) (by kernel_rfl) (by simp) ?_
  refine AllReadyH.cons (o := _) rfl (fun K hK => ?_) ?_
  rotate_left
  · exact AllReadyH.nil
  go_simp
  (go_at_call 38; refine (k1.out _ (U0.out.later (by (try go_split_ands); with_reducible assumption))).mono ?_; rintro e w' ⟨rfl, hbel2⟩; have hbw2 : Below wx.heap.size wx w' := below_old' hbel2 (by (try go_split_ands); assumption); obtain ⟨hcc2, hff2⟩ := bcell hbel2)
  refine hK.out _ _ ?_ (fun hHeld => ?_)
  · (try dsimp only)
    (first | assumption | ((try go_split_ands); refine and_dep ?_ (fun hbX => ⟨cell_old hbX s0, cell_old hbX s1, cell_old hbX s2, cell_old hbX s3, cell_old hbX s4, cell_old hbX s5, cell_old hbX s6, cell_old hbX s7, cell_old hbX s8, cell_old hbX s9, cell_old hbX s10, cell_old hbX s11, cell_old hbX s12, cell_old hbX s13, cell_old hbX m0, cell_old hbX m1, cell_old hbX m2, cell_old hbX m3, cell_old hbX m4⟩); (with_reducible repeat first | assumption | exact below_old' (by assumption) (by assumption) | refine Below.drew ?_ | refine below_new_old ?_ _)))
  clear hK K
  try simp only [List.getElem_toArray, List.getElem_cons_zero, List.getElem_cons_succ, Act.put, List.setIfInBounds_toArray, List.set_cons_zero, List.set_cons_succ]
  first
    | (refine tk1 (i := 5) (v := ?_) rfl (Or.inl ⟨by rfl, ?_⟩) (by assumption) ?_
       rotate_left
       · (intro w hSw; (try dsimp only at hSw); go_simp; try with_reducible rfl))
    | refine tk1 (i := 5) (v := undef) rfl (Or.inr ⟨by rfl, rfl⟩) (by assumption) ?_
  try simp only [List.getElem_toArray, List.getElem_cons_zero, List.getElem_cons_succ, Act.put, List.setIfInBounds_toArray, List.set_cons_zero, List.set_cons_succ]
  refine wpAnyH_done (by kernel_rfl) ?_ _
  obtain ⟨W1, hW1⟩ : ∃ W, W = w' := ⟨_, rfl⟩
  subst hW1
  have U1 := Lib.hid (U0.out.later hbw2)
  have BS1 := Lib.hid (BS.out.later hbw2)
  have BM1 := Lib.hid (BM.out.later hbw2)
  have BR1 := Lib.hid (BR.out.later hbw2)
  have hs1 := BR1.out.lt
  clear hcc hff hbel hcc2 hff2 hbel2 hbw hU s0 s1 s2 s3 s4 s5 s6 s7 s8 s9 s10 s11 s12 s13 m0 m1 m2 m3 m4
  clear hbw2
  obtain ⟨s0, s1, s2, s3, s4, s5, s6, s7, s8, s9, s10, s11, s12, s13⟩ := Blk.c14 BS1.out
  obtain ⟨m0, m1, m2, m3, m4⟩ := Blk.c5 BM1.out
  go_wp2_with fail
  refine (k2.out _ U1.out).mono ?_
  rintro e w2 ⟨A1, c1, l1, A2, c2, l2, rfl, hm1, hm2, hw1, hw2, hcp2, hcm2, hbel⟩
  rw [HRUN.out] at hm1 hm2 ⊢
  simp only at hm1 hm2
  generalize hND : Jb.maxSq dn (Jb.due now (l.map TW.w)) = ND
  generalize hPD : pd + ((Jb.due now (l.map TW.w)).length : Int) = PD
  have hS1 : Jb.run0 ⟨le, mo, nw, true, ze, fi, hi, dn, sp, tr, l.map TW.w, la, tw, pd⟩ now = ⟨le, mo, now, true, ze, fi, hi, ND, sp, tr, l2.map TW.w, la, tw, PD⟩ := by rw [hm2, ← hND, ← hPD]; rfl
  rw [hS1] at HPUT HANY HLS HFULL ⊢
  have HOQ2 : Hid (Jb.okQ now hi (l2.map TW.w)) := Lib.hid (by rw [hm2]; exact HOQ.out)
  have hl22 : l2.length ≤ 200 := by have := HOQ2.out.1; simpa using this
  have PS : QSt w w2 [.int .i64 le, .int .i64 mo, .int .i64 nw, .bool true, .int .i64 ze, .int .i64 fi, .int .i64 hi, .int .i64 dn, .int .i64 sp, .int .i64 tr, .slice A l.length qc, .int .i64 la, .int .i64 tw, .int .i64 pd] [.int .i64 sq, .int .i64 ti, .bool mk, .int .u8 ty, .slice MA pl.length mc] A1 l1 A2 l2.length c2 l2 := ⟨BS1.out.later hbel, (by intro v hv z e; subst e; simp at hv), BM1.out.later hbel, BR1.out.later hbel, U1.out.later hbel, hw1, hw2, rfl, hcp2, hcm2⟩
  have PS2 := Lib.hid PS
  have HM1 := Lib.hid hm1
  clear hbel hm1 hm2 hw1 hw2 hND hPD hS1 PS HOQ BS1 BM1 BR1 U1 k1 k2 BS BM BR U0 HRUN s0 s1 s2 s3 s4 s5 s6 s7 s8 s9 s10 s11 s12 s13 m0 m1 m2 m3 m4
  obtain ⟨b0, b1, b2, b3, b4, b5, b6, b7, b8, b9, b10, b11, b12, b13⟩ := Blk.c14 PS2.out.bs
  obtain ⟨r0, r1, r2, r3, r4, r5, r6, r7, r8, r9, r10, r11, r12, r13⟩ := Blk.c14 PS2.out.br
  obtain ⟨m0, m1, m2, m3, m4⟩ := Blk.c5 PS2.out.bm
  have bfz := PS2.out.bs.frozen
  have rfz := PS2.out.br.frozen
  have hzl := PS2.out.br.lt
  simp only [JV]
  go_wp2_with fail
  obtain ⟨W3, hW3⟩ : ∃ W, W = setRow w.heap.size w2 0 [.int .i64 le, .int .i64 mo, .int .i64 now, .bool true, .int .i64 ze, .int .i64 fi, .int .i64 hi, .int .i64 ND, .int .i64 sp, .int .i64 tr, .slice A2 l2.length c2, .int .i64 la, .int .i64 tw, .int .i64 PD] := ⟨_, rfl⟩
  have PW3 := PS2.out.row (n3 := 0) (c3 := 0) (A3 := none) (l3 := []) [.int .i64 le, .int .i64 mo, .int .i64 now, .bool true, .int .i64 ze, .int .i64 fi, .int .i64 hi, .int .i64 ND, .int .i64 sp, .int .i64 tr, .slice A2 l2.length c2, .int .i64 la, .int .i64 tw, .int .i64 PD] rfl (by intro v hv z e; subst e; simp at hv)
  rw [← hW3] at PW3
  have PS3 := Lib.hid PW3
  simp only [setRow, Nat.zero_add, Nat.reduceAdd] at hW3
  rw [← hW3]
  clear PW3 hW3 PS2
  clear b0 r0 b1 r1 b2 r2 b3 r3 b4 r4 b5 r5 b6 r6 b7 r7 b8 r8 b9 r9 b10 r10 b11 r11 b12 r12 b13 r13 m0 m1 m2 m3 m4 bfz rfz hzl
  go_loopg [12] l2.length (fun gk i wr => ∃ (k : Nat), gk + k = l2.length ∧ i = .int .i64 k ∧ Hid (QSt w wr [.int .i64 le, .int .i64 mo, .int .i64 now, .bool true, .int .i64 ze, .int .i64 fi, .int .i64 hi, .int .i64 ND, .int .i64 sp, .int .i64 tr, .slice A2 l2.length c2, .int .i64 la, .int .i64 tw, .int .i64 PD] [.int .i64 sq, .int .i64 ti, .bool mk, .int .u8 ty, .slice MA pl.length mc] A1 l1 A2 l2.length c2 l2))
  case atStart => exact ⟨0, rfl, rfl, PS3⟩
  case round =>
    obtain ⟨k, hgk, rfl, PS4⟩ := hrel
    have hi0 : (0 : Int) ≤ (k : Int) := by omega
    obtain ⟨b0, b1, b2, b3, b4, b5, b6, b7, b8, b9, b10, b11, b12, b13⟩ := Blk.c14 PS4.out.bs
    obtain ⟨r0, r1, r2, r3, r4, r5, r6, r7, r8, r9, r10, r11, r12, r13⟩ := Blk.c14 PS4.out.br
    obtain ⟨m0, m1, m2, m3, m4⟩ := Blk.c5 PS4.out.bm
    have bfz := PS4.out.bs.frozen
    have rfz := PS4.out.br.frozen
    have hzl := PS4.out.br.lt
    by_cases hk : k < l2.length
    · have hi1 : (k : Int) < (l2.length : Int) := by omega
      obtain ⟨a, ha⟩ : ∃ a, l2[k]? = some a := ⟨_, List.getElem?_eq_getElem (by omega)⟩
      obtain ⟨bq, oq, rfl, hbq, e0, e1, e2, e3, e4, e5⟩ := rowsW PS4.out.p2.1 ha
      have hne := any_no HANY.out ha
      obtain ⟨sq8, hsq8⟩ : ∃ x, x = a.w.m.sq := ⟨_, rfl⟩
      rw [← hsq8] at e1 hne
      clear ha hsq8 e0 e2 e3 e4 e5
      have hee : (sq8 == sq) = false := by simpa using hne
      clear hne
      go_wp2_with fail
      go_quiet (fail)
      go_wp2_with fail
      go_roundg (gk - 1)
      case measure => omega
      case rel => exact ⟨k + 1, by omega, by go_num, Lib.hid (PS4.out.drewN _)⟩
    obtain rfl : k = l2.length := by omega
    have hi1 : (l2.length : Int) ≤ (l2.length : Int) := Int.le_refl _
    have hls' : ND < sq := HLS.out
    have hfull := HFULL.out
    simp only [List.length_map] at hfull
    have hf3 : l2.length = 200 := by omega
    have hf4 : ((l2.length : Int) == 200) = true := by rw [hf3]; rfl
    have hf5 : ((l2.length) == 200) = true := by rw [hf3]; rfl
    clear hfull hf3
    go_wp2_with fail
    have PF : QSt w _ [.int .i64 le, .int .i64 mo, .int .i64 now, .bool true, .int .i64 ze, .int .i64 fi, .int .i64 hi, .int .i64 ND, .int .i64 sp, .int .i64 tr, .slice A2 l2.length c2, .int .i64 la, .int .i64 tw, .int .i64 PD] [.int .i64 sq, .int .i64 ti, .bool mk, .int .u8 ty, .slice MA pl.length mc] A1 l1 A2 l2.length c2 l2 := PS4.out
    obtain ⟨BF, F1, F2, F3, F4, F5, UF⟩ := PF.fin [.int .i64 le, .int .i64 mo, .int .i64 now, .bool true, .int .i64 ze, .int .i64 fi, .int .i64 hi, .int .i64 ND, .int .i64 sp, .int .i64 tr, .slice A2 l2.length c2, .int .i64 la, .int .i64 tw, .int .i64 PD] rfl
    simp only [setRow, Nat.zero_add, Nat.reduceAdd] at BF F1 F2 UF
    have hp : Jb.put0 ⟨le, mo, now, true, ze, fi, hi, ND, sp, tr, l2.map TW.w, la, tw, PD⟩ ⟨sq, ti, mk, ty, pl⟩ = (⟨le, mo, now, true, ze, fi, hi, ND, sp, tr, l2.map TW.w, la, tw, PD⟩, 4) := put0_full _ _ HANY.out (fun h => absurd h.2 (Int.not_le.2 HLS.out)) HFULL.out
    refine bodyPost_ret (v := .tuple #[.agg (List.toArray [.int .i64 le, .int .i64 mo, .int .i64 now, .bool true, .int .i64 ze, .int .i64 fi, .int .i64 hi, .int .i64 ND, .int .i64 sp, .int .i64 tr, .slice A2 l2.length c2, .int .i64 la, .int .i64 tw, .int .i64 PD]), .slice A1 l1.length c1, .int .u8 4, .int .u8 0]) (res_cttt Try.results12 rfl (run_loadVar_row (P := Try.prog) _ _ _ _ _ _ _ BF Try.underlying26 rfl (by kernel_rfl)) rfl rfl rfl) rfl ⟨A1, c1, l1, A2, c2, l2, ?_, ?_, ?_, F1, F2, by rw [F3]; exact F4, F5, UF⟩
    · rw [HPUT.out, hp]; rfl
    · rw [HPUT.out]; exact HM1.out
    · rw [HPUT.out, hp]
end Go.Proofs.Ytnaafjdnmbajjaa
/- Layer 30: Put of the reference, one way. -/
namespace Go.Proofs.Ytnaafjdnmbajjaa
open Go.RowKit
set_option linter.unusedVariables false
set_option linter.unusedSimpArgs false
attribute [local go_sem ↓] run_min_plain run_max_plain
attribute [local go_sem] setCell_drewN alloc_drewN
set_option maxRecDepth 100000 in
set_option maxHeartbeats 12800000 in
theorem rput_full0 (le mo nw : Int) (ze fi hi dn sp tr : Int) (A : Option Addr) (l : List TW) (n qc : Nat) (la tw pd : Int) (now : Int) (sq ti : Int) (mk : Bool) (ty : Int) (MA : Option Addr) (mn mc : Nat) (pl : List Int) (w : World) (hn : l.length = n) (hmn : pl.length = mn) (hl : n ≤ 100000) (hm9 : mn ≤ 100000) (hcap : n ≤ qc) (hcm : qc ≤ maxLen) (hA : Wts w w.heap.size A l) (hP : ∀ a ∈ l, a.w.m.pl.length ≤ 1000000000) (hMI : IntsAt w w.heap.size .u8 MA pl) (hr0 : Jb.chk ⟨le, mo, nw, false, ze, fi, hi, dn, sp, tr, l.map TW.w, la, tw, pd⟩ now (decide (Jb.Md.ok ⟨sq, ti, mk, ty, pl⟩)) = 0) (hany : ((Jb.run0 ⟨le, mo, nw, false, ze, fi, hi, dn, sp, tr, l.map TW.w, la, tw, pd⟩ now).q.any fun w => w.m.sq == sq) = false) (hfull : 200 ≤ (Jb.run0 ⟨le, mo, nw, false, ze, fi, hi, dn, sp, tr, l.map TW.w, la, tw, pd⟩ now).q.length) : Calls Try.prog 12 #[.agg #[.int .i64 le, .int .i64 mo, .int .i64 nw, .bool false, .int .i64 ze, .int .i64 fi, .int .i64 hi, .int .i64 dn, .int .i64 sp, .int .i64 tr, .slice A n qc, .int .i64 la, .int .i64 tw, .int .i64 pd], .int .i64 now, .agg #[.int .i64 sq, .int .i64 ti, .bool mk, .int .u8 ty, .slice MA mn mc]] w (JPutR ⟨le, mo, nw, false, ze, fi, hi, dn, sp, tr, l.map TW.w, la, tw, pd⟩ now ⟨sq, ti, mk, ty, pl⟩ w) := by
  subst hn
  subst hmn
  obtain ⟨r, hr⟩ : ∃ r, r = Jb.chk ⟨le, mo, nw, false, ze, fi, hi, dn, sp, tr, l.map TW.w, la, tw, pd⟩ now (decide (Jb.Md.ok ⟨sq, ti, mk, ty, pl⟩)) := ⟨_, rfl⟩
  rw [← hr] at hr0
  subst hr0
  have HR := Lib.hid hr
  obtain ⟨fm, hfm0⟩ : ∃ fm, fm = decide (Jb.Md.ok ⟨sq, ti, mk, ty, pl⟩) := ⟨_, rfl⟩
  have k0 := Lib.hid fun W => rformed_any sq ti mk ty MA pl.length mc W (by omega) fm (by rw [hfm0]; rfl)
  rw [← hfm0] at hr
  have k1 := Lib.hid fun (W : World) (hW : Bel w W) => rcheck_any le mo nw false ze fi hi dn sp tr A l l.length qc la tw pd now fm W rfl hl ((hA.below hW).more hW.size) hP 0 hr
  have U0 := Lib.hid ((((Bel.refl w).push (.cells #[.int .i64 le, .int .i64 mo, .int .i64 nw, .bool false, .int .i64 ze, .int .i64 fi, .int .i64 hi, .int .i64 dn, .int .i64 sp, .int .i64 tr, .slice A l.length qc, .int .i64 la, .int .i64 tw, .int .i64 pd] 26)).push (.cells #[.int .i64 sq, .int .i64 ti, .bool mk, .int .u8 ty, .slice MA pl.length mc] 29)).push (.cells #[.int .i64 0, .int .i64 0, .int .i64 0, .bool false, .int .i64 0, .int .i64 0, .int .i64 0, .int .i64 0, .int .i64 0, .int .i64 0, .slice none 0 0, .int .i64 0, .int .i64 0, .int .i64 0] 26))
  have BS := Lib.hid (((Blk.new w 26 #[.int .i64 le, .int .i64 mo, .int .i64 nw, .bool false, .int .i64 ze, .int .i64 fi, .int .i64 hi, .int .i64 dn, .int .i64 sp, .int .i64 tr, .slice A l.length qc, .int .i64 la, .int .i64 tw, .int .i64 pd]).push (.cells #[.int .i64 sq, .int .i64 ti, .bool mk, .int .u8 ty, .slice MA pl.length mc] 29)).push (.cells #[.int .i64 0, .int .i64 0, .int .i64 0, .bool false, .int .i64 0, .int .i64 0, .int .i64 0, .int .i64 0, .int .i64 0, .int .i64 0, .slice none 0 0, .int .i64 0, .int .i64 0, .int .i64 0] 26))
  have BM := Lib.hid ((Blk.new1 w (.cells #[.int .i64 le, .int .i64 mo, .int .i64 nw, .bool false, .int .i64 ze, .int .i64 fi, .int .i64 hi, .int .i64 dn, .int .i64 sp, .int .i64 tr, .slice A l.length qc, .int .i64 la, .int .i64 tw, .int .i64 pd] 26) 29 #[.int .i64 sq, .int .i64 ti, .bool mk, .int .u8 ty, .slice MA pl.length mc]).push (.cells #[.int .i64 0, .int .i64 0, .int .i64 0, .bool false, .int .i64 0, .int .i64 0, .int .i64 0, .int .i64 0, .int .i64 0, .int .i64 0, .slice none 0 0, .int .i64 0, .int .i64 0, .int .i64 0] 26))
  have BR : Hid (Blk (((w.alloc (.cells #[.int .i64 le, .int .i64 mo, .int .i64 nw, .bool false, .int .i64 ze, .int .i64 fi, .int .i64 hi, .int .i64 dn, .int .i64 sp, .int .i64 tr, .slice A l.length qc, .int .i64 la, .int .i64 tw, .int .i64 pd] 26)).alloc (.cells #[.int .i64 sq, .int .i64 ti, .bool mk, .int .u8 ty, .slice MA pl.length mc] 29)).alloc (.cells #[.int .i64 0, .int .i64 0, .int .i64 0, .bool false, .int .i64 0, .int .i64 0, .int .i64 0, .int .i64 0, .int .i64 0, .int .i64 0, .slice none 0 0, .int .i64 0, .int .i64 0, .int .i64 0] 26)) (w.heap.size + 1 + 1) 26 #[.int .i64 0, .int .i64 0, .int .i64 0, .bool false, .int .i64 0, .int .i64 0, .int .i64 0, .int .i64 0, .int .i64 0, .int .i64 0, .slice none 0 0, .int .i64 0, .int .i64 0, .int .i64 0]) := Lib.hid (by have h9 := Blk.new ((w.alloc (.cells #[.int .i64 le, .int .i64 mo, .int .i64 nw, .bool false, .int .i64 ze, .int .i64 fi, .int .i64 hi, .int .i64 dn, .int .i64 sp, .int .i64 tr, .slice A l.length qc, .int .i64 la, .int .i64 tw, .int .i64 pd] 26)).alloc (.cells #[.int .i64 sq, .int .i64 ti, .bool mk, .int .u8 ty, .slice MA pl.length mc] 29)) 26 #[.int .i64 0, .int .i64 0, .int .i64 0, .bool false, .int .i64 0, .int .i64 0, .int .i64 0, .int .i64 0, .int .i64 0, .int .i64 0, .slice none 0 0, .int .i64 0, .int .i64 0, .int .i64 0]; rw [size_alloc2] at h9; exact h9)
  have HA := Lib.hid hA
  have HMI := Lib.hid hMI
  have HP := Lib.hid hP
  clear hr hA hMI hP hfm0
  obtain ⟨hok, hnow, hfm, hlt⟩ := chk_zero HR.out.symm
  rw [decide_eq_true_iff] at hfm
  obtain ⟨hl2, hpl⟩ := ok_small (l := l) hok rfl
  obtain ⟨⟨z0, z1⟩, ⟨f0, f1⟩, hoq⟩ := put_facts _ ⟨sq, ti, mk, ty, pl⟩ now hok hfm hlt hnow
  have hrun : Jb.run ⟨le, mo, nw, false, ze, fi, hi, dn, sp, tr, l.map TW.w, la, tw, pd⟩ now = (Jb.run0 ⟨le, mo, nw, false, ze, fi, hi, dn, sp, tr, l.map TW.w, la, tw, pd⟩ now, Jb.due now (l.map TW.w), 0) := by unfold Jb.run; rw [Jb.chk_run hok hlt hnow, if_pos rfl]
  have HRUN := Lib.hid hrun
  have k2 := Lib.hid fun (W : World) (hW : Bel w W) => rrun_let le mo nw false ze fi hi dn sp tr A l l.length qc la tw pd now W rfl hl hcap hcm ((HA.out.below hW).more hW.size) HP.out
  obtain ⟨⟨⟨n0, n1⟩, _, ⟨t0, t1⟩, _, _, _, ⟨sb0, sb1⟩⟩, ⟨cf0, cf1, cf2⟩, ⟨⟨la0, la1⟩, ⟨tw0, tw1⟩, _⟩, _, _⟩ := hok
  obtain ⟨⟨q0, q1⟩, ⟨ti0, ti1⟩, pl0⟩ := hfm
  simp only at n0 n1 t0 t1 sb0 sb1 cf0 cf1 cf2 la0 la1 tw0 tw1 q0 q1 ti0 ti1 pl0 hlt
  have hnow0 : 0 ≤ now := by omega
  have hput : Jb.put ⟨le, mo, nw, false, ze, fi, hi, dn, sp, tr, l.map TW.w, la, tw, pd⟩ now ⟨sq, ti, mk, ty, pl⟩ = ((Jb.put0 (Jb.run0 ⟨le, mo, nw, false, ze, fi, hi, dn, sp, tr, l.map TW.w, la, tw, pd⟩ now) ⟨sq, ti, mk, ty, pl⟩).1, Jb.due now (l.map TW.w), (Jb.put0 (Jb.run0 ⟨le, mo, nw, false, ze, fi, hi, dn, sp, tr, l.map TW.w, la, tw, pd⟩ now) ⟨sq, ti, mk, ty, pl⟩).2, 0) := by unfold Jb.put; rw [← HR.out, if_pos rfl]
  have HPUT := Lib.hid hput
  have HOQ := Lib.hid hoq
  have HANY := Lib.hid hany
  have HFULL := Lib.hid hfull
  clear hlt hl2 hpl hput hoq z0 z1 f0 f1 n0 n1 hrun hany hfull
  go_enter Try.func12, Try.ntmps12
  go_wp2_with fail
  obtain ⟨wx, hwx⟩ : ∃ W, W = (((w.alloc (.cells #[.int .i64 le, .int .i64 mo, .int .i64 nw, .bool false, .int .i64 ze, .int .i64 fi, .int .i64 hi, .int .i64 dn, .int .i64 sp, .int .i64 tr, .slice A l.length qc, .int .i64 la, .int .i64 tw, .int .i64 pd] 26)).alloc (.cells #[.int .i64 sq, .int .i64 ti, .bool mk, .int .u8 ty, .slice MA pl.length mc] 29)).alloc (.cells #[.int .i64 0, .int .i64 0, .int .i64 0, .bool false, .int .i64 0, .int .i64 0, .int .i64 0, .int .i64 0, .int .i64 0, .int .i64 0, .slice none 0 0, .int .i64 0, .int .i64 0, .int .i64 0] 26)) := ⟨_, rfl⟩
  rw [← hwx] at U0 BS BM BR ⊢
  clear hwx
  obtain ⟨s0, s1, s2, s3, s4, s5, s6, s7, s8, s9, s10, s11, s12, s13⟩ := Blk.c14 BS.out
  obtain ⟨m0, m1, m2, m3, m4⟩ := Blk.c5 BM.out
  have hU : Below wx.heap.size wx wx := Below.refl _ _
  have hlr := BR.out.lt
  refine wp_region_held_drew (S := fun w' => Below wx.heap.size wx w' ∧ w'.cell? ⟨w.heap.size, 0, none⟩ = some (.int .i64 le) ∧ w'.cell? ⟨w.heap.size, 1, none⟩ = some (.int .i64 mo) ∧ w'.cell? ⟨w.heap.size, 2, none⟩ = some (.int .i64 nw) ∧ w'.cell? ⟨w.heap.size, 3, none⟩ = some (.bool false) ∧ w'.cell? ⟨w.heap.size, 4, none⟩ = some (.int .i64 ze) ∧ w'.cell? ⟨w.heap.size, 5, none⟩ = some (.int .i64 fi) ∧ w'.cell? ⟨w.heap.size, 6, none⟩ = some (.int .i64 hi) ∧ w'.cell? ⟨w.heap.size, 7, none⟩ = some (.int .i64 dn) ∧ w'.cell? ⟨w.heap.size, 8, none⟩ = some (.int .i64 sp) ∧ w'.cell? ⟨w.heap.size, 9, none⟩ = some (.int .i64 tr) ∧ w'.cell? ⟨w.heap.size, 10, none⟩ = some (.slice A l.length qc) ∧ w'.cell? ⟨w.heap.size, 11, none⟩ = some (.int .i64 la) ∧ w'.cell? ⟨w.heap.size, 12, none⟩ = some (.int .i64 tw) ∧ w'.cell? ⟨w.heap.size, 13, none⟩ = some (.int .i64 pd) ∧ w'.cell? ⟨w.heap.size + 1, 0, none⟩ = some (.int .i64 sq) ∧ w'.cell? ⟨w.heap.size + 1, 1, none⟩ = some (.int .i64 ti) ∧ w'.cell? ⟨w.heap.size + 1, 2, none⟩ = some (.bool mk) ∧ w'.cell? ⟨w.heap.size + 1, 3, none⟩ = some (.int .u8 ty) ∧ w'.cell? ⟨w.heap.size + 1, 4, none⟩ = some (.slice MA pl.length mc)) (by kernel_rfl) ?_ (fun hHeld => ?_)
  · (first | assumption | ((try go_split_ands); refine and_dep ?_ (fun hbX => ⟨cell_old hbX s0, cell_old hbX s1, cell_old hbX s2, cell_old hbX s3, cell_old hbX s4, cell_old hbX s5, cell_old hbX s6, cell_old hbX s7, cell_old hbX s8, cell_old hbX s9, cell_old hbX s10, cell_old hbX s11, cell_old hbX s12, cell_old hbX s13, cell_old hbX m0, cell_old hbX m1, cell_old hbX m2, cell_old hbX m3, cell_old hbX m4⟩); (with_reducible repeat first | assumption | exact below_old' (by assumption) (by assumption) | refine Below.drew ?_ | refine below_new_old ?_ _)))
  first
    | (refine tk1 (i := 0) (v := ?_) rfl (Or.inl ⟨by rfl, ?_⟩) (by assumption) ?_
       rotate_left
       · (intro w hSw; (try dsimp only at hSw); go_simp; try with_reducible rfl))
    | refine tk1 (i := 0) (v := undef) rfl (Or.inr ⟨by rfl, rfl⟩) (by assumption) ?_
  try simp only [List.getElem_toArray, List.getElem_cons_zero, List.getElem_cons_succ, Act.put, List.setIfInBounds_toArray, List.set_cons_zero, List.set_cons_succ]
  first
    | (refine tk1 (i := 1) (v := ?_) rfl (Or.inl ⟨by rfl, ?_⟩) (by assumption) ?_
       rotate_left
       · (intro w hSw; (try dsimp only at hSw); go_simp; try with_reducible rfl))
    | refine tk1 (i := 1) (v := undef) rfl (Or.inr ⟨by rfl, rfl⟩) (by assumption) ?_
  try simp only [List.getElem_toArray, List.getElem_cons_zero, List.getElem_cons_succ, Act.put, List.setIfInBounds_toArray, List.set_cons_zero, List.set_cons_succ]
  first
    | (refine tk1 (i := 2) (v := ?_) rfl (Or.inl ⟨by rfl, ?_⟩) (by assumption) ?_
       rotate_left
       · (intro w hSw; (try dsimp only at hSw); go_simp; try with_reducible rfl))
    | refine tk1 (i := 2) (v := undef) rfl (Or.inr ⟨by rfl, rfl⟩) (by assumption) ?_
  try simp only [List.getElem_toArray, List.getElem_cons_zero, List.getElem_cons_succ, Act.put, List.setIfInBounds_toArray, List.set_cons_zero, List.set_cons_succ]
  refine wpAnyH_ready (rs := [3]) (by kernel_rfl) (by simp) ?_
  refine AllReadyH.cons (o := _) rfl (fun K hK => ?_) ?_
  rotate_left
  · exact AllReadyH.nil
  go_simp
  (go_at_call 25; refine (k0.out _).mono ?_; rintro e w' ⟨rfl, hbel⟩; have hbw : Below wx.heap.size wx w' := below_old' hbel (by (try go_split_ands); assumption); obtain ⟨hcc, hff⟩ := bcell hbel)
  refine hK.out _ _ ?_ (fun hHeld => ?_)
  · (try dsimp only)
    (first | assumption | ((try go_split_ands); refine and_dep ?_ (fun hbX => ⟨cell_old hbX s0, cell_old hbX s1, cell_old hbX s2, cell_old hbX s3, cell_old hbX s4, cell_old hbX s5, cell_old hbX s6, cell_old hbX s7, cell_old hbX s8, cell_old hbX s9, cell_old hbX s10, cell_old hbX s11, cell_old hbX s12, cell_old hbX s13, cell_old hbX m0, cell_old hbX m1, cell_old hbX m2, cell_old hbX m3, cell_old hbX m4⟩); (with_reducible repeat first | assumption | exact below_old' (by assumption) (by assumption) | refine Below.drew ?_ | refine below_new_old ?_ _)))
  clear hK K
  try simp only [List.getElem_toArray, List.getElem_cons_zero, List.getElem_cons_succ, Act.put, List.setIfInBounds_toArray, List.set_cons_zero, List.set_cons_succ]
  refine wpAnyH_ready (rs := [4]) (by kernel_rfl) (by simp) ?_
  refine AllReadyH.cons (o := _) rfl (fun K hK => ?_) ?_
  rotate_left
  · exact AllReadyH.nil
  go_simp
  (go_at_call 38; refine (k1.out _ (U0.out.later (by (try go_split_ands); with_reducible assumption))).mono ?_; rintro e w' ⟨rfl, hbel2⟩; have hbw2 : Below wx.heap.size wx w' := below_old' hbel2 (by (try go_split_ands); assumption); obtain ⟨hcc2, hff2⟩ := bcell hbel2)
  refine hK.out _ _ ?_ (fun hHeld => ?_)
  · (try dsimp only)
    (first | assumption | ((try go_split_ands); refine and_dep ?_ (fun hbX => ⟨cell_old hbX s0, cell_old hbX s1, cell_old hbX s2, cell_old hbX s3, cell_old hbX s4, cell_old hbX s5, cell_old hbX s6, cell_old hbX s7, cell_old hbX s8, cell_old hbX s9, cell_old hbX s10, cell_old hbX s11, cell_old hbX s12, cell_old hbX s13, cell_old hbX m0, cell_old hbX m1, cell_old hbX m2, cell_old hbX m3, cell_old hbX m4⟩); (with_reducible repeat first | assumption | exact below_old' (by assumption) (by assumption) | refine Below.drew ?_ | refine below_new_old ?_ _)))
  clear hK K
  try simp only [List.getElem_toArray, List.getElem_cons_zero, List.getElem_cons_succ, Act.put, List.setIfInBounds_toArray, List.set_cons_zero, List.set_cons_succ]
  first
    | (refine tk1 (i := 5) (v := ?_) rfl (Or.inl ⟨by rfl, ?_⟩) (by assumption) ?_
       rotate_left
       · (intro w hSw; (try dsimp only at hSw); go_simp; try with_reducible rfl))
    | refine tk1 (i := 5) (v := undef) rfl (Or.inr ⟨by rfl, rfl⟩) (by assumption) ?_
  try simp only [List.getElem_toArray, List.getElem_cons_zero, List.getElem_cons_succ, Act.put, List.setIfInBounds_toArray, List.set_cons_zero, List.set_cons_succ]
  refine wpAnyH_done (by kernel_rfl) ?_ _
  obtain ⟨W1, hW1⟩ : ∃ W, W = w' := ⟨_, rfl⟩
  subst hW1
  have U1 := Lib.hid (U0.out.later hbw2)
  have BS1 := Lib.hid (BS.out.later hbw2)
  have BM1 := Lib.hid (BM.out.later hbw2)
  have BR1 := Lib.hid (BR.out.later hbw2)
  have hs1 := BR1.out.lt
  clear hcc hff hbel hcc2 hff2 hbel2 hbw hU s0 s1 s2 s3 s4 s5 s6 s7 s8 s9 s10 s11 s12 s13 m0 m1 m2 m3 m4
  clear hbw2
  obtain ⟨s0, s1, s2, s3, s4, s5, s6, s7, s8, s9, s10, s11, s12, s13⟩ := Blk.c14 BS1.out
  obtain ⟨m0, m1, m2, m3, m4⟩ := Blk.c5 BM1.out
  go_wp2_with fail
  refine (k2.out _ U1.out).mono ?_
  rintro e w2 ⟨A1, c1, l1, A2, c2, l2, rfl, hm1, hm2, hw1, hw2, hcp2, hcm2, hbel⟩
  rw [HRUN.out] at hm1 hm2 ⊢
  simp only at hm1 hm2
  generalize hND : Jb.maxSq dn (Jb.due now (l.map TW.w)) = ND
  generalize hPD : pd + ((Jb.due now (l.map TW.w)).length : Int) = PD
  have hS1 : Jb.run0 ⟨le, mo, nw, false, ze, fi, hi, dn, sp, tr, l.map TW.w, la, tw, pd⟩ now = ⟨le, mo, now, false, ze, fi, hi, ND, sp, tr, l2.map TW.w, la, tw, PD⟩ := by rw [hm2, ← hND, ← hPD]; rfl
  rw [hS1] at HPUT HANY HFULL ⊢
  have HOQ2 : Hid (Jb.okQ now hi (l2.map TW.w)) := Lib.hid (by rw [hm2]; exact HOQ.out)
  have hl22 : l2.length ≤ 200 := by have := HOQ2.out.1; simpa using this
  have PS : QSt w w2 [.int .i64 le, .int .i64 mo, .int .i64 nw, .bool false, .int .i64 ze, .int .i64 fi, .int .i64 hi, .int .i64 dn, .int .i64 sp, .int .i64 tr, .slice A l.length qc, .int .i64 la, .int .i64 tw, .int .i64 pd] [.int .i64 sq, .int .i64 ti, .bool mk, .int .u8 ty, .slice MA pl.length mc] A1 l1 A2 l2.length c2 l2 := ⟨BS1.out.later hbel, (by intro v hv z e; subst e; simp at hv), BM1.out.later hbel, BR1.out.later hbel, U1.out.later hbel, hw1, hw2, rfl, hcp2, hcm2⟩
  have PS2 := Lib.hid PS
  have HM1 := Lib.hid hm1
  clear hbel hm1 hm2 hw1 hw2 hND hPD hS1 PS HOQ BS1 BM1 BR1 U1 k1 k2 BS BM BR U0 HRUN s0 s1 s2 s3 s4 s5 s6 s7 s8 s9 s10 s11 s12 s13 m0 m1 m2 m3 m4
  obtain ⟨b0, b1, b2, b3, b4, b5, b6, b7, b8, b9, b10, b11, b12, b13⟩ := Blk.c14 PS2.out.bs
  obtain ⟨r0, r1, r2, r3, r4, r5, r6, r7, r8, r9, r10, r11, r12, r13⟩ := Blk.c14 PS2.out.br
  obtain ⟨m0, m1, m2, m3, m4⟩ := Blk.c5 PS2.out.bm
  have bfz := PS2.out.bs.frozen
  have rfz := PS2.out.br.frozen
  have hzl := PS2.out.br.lt
  simp only [JV]
  go_wp2_with fail
  obtain ⟨W3, hW3⟩ : ∃ W, W = setRow w.heap.size w2 0 [.int .i64 le, .int .i64 mo, .int .i64 now, .bool false, .int .i64 ze, .int .i64 fi, .int .i64 hi, .int .i64 ND, .int .i64 sp, .int .i64 tr, .slice A2 l2.length c2, .int .i64 la, .int .i64 tw, .int .i64 PD] := ⟨_, rfl⟩
  have PW3 := PS2.out.row (n3 := 0) (c3 := 0) (A3 := none) (l3 := []) [.int .i64 le, .int .i64 mo, .int .i64 now, .bool false, .int .i64 ze, .int .i64 fi, .int .i64 hi, .int .i64 ND, .int .i64 sp, .int .i64 tr, .slice A2 l2.length c2, .int .i64 la, .int .i64 tw, .int .i64 PD] rfl (by intro v hv z e; subst e; simp at hv)
  rw [← hW3] at PW3
  have PS3 := Lib.hid PW3
  simp only [setRow, Nat.zero_add, Nat.reduceAdd] at hW3
  rw [← hW3]
  clear PW3 hW3 PS2
  clear b0 r0 b1 r1 b2 r2 b3 r3 b4 r4 b5 r5 b6 r6 b7 r7 b8 r8 b9 r9 b10 r10 b11 r11 b12 r12 b13 r13 m0 m1 m2 m3 m4 bfz rfz hzl
  go_loopg [12] l2.length (fun gk i wr => ∃ (k : Nat), gk + k = l2.length ∧ i = .int .i64 k ∧ Hid (QSt w wr [.int .i64 le, .int .i64 mo, .int .i64 now, .bool false, .int .i64 ze, .int .i64 fi, .int .i64 hi, .int .i64 ND, .int .i64 sp, .int .i64 tr, .slice A2 l2.length c2, .int .i64 la, .int .i64 tw, .int .i64 PD] [.int .i64 sq, .int .i64 ti, .bool mk, .int .u8 ty, .slice MA pl.length mc] A1 l1 A2 l2.length c2 l2))
  case atStart => exact ⟨0, rfl, rfl, PS3⟩
  case round =>
    obtain ⟨k, hgk, rfl, PS4⟩ := hrel
    have hi0 : (0 : Int) ≤ (k : Int) := by omega
    obtain ⟨b0, b1, b2, b3, b4, b5, b6, b7, b8, b9, b10, b11, b12, b13⟩ := Blk.c14 PS4.out.bs
    obtain ⟨r0, r1, r2, r3, r4, r5, r6, r7, r8, r9, r10, r11, r12, r13⟩ := Blk.c14 PS4.out.br
    obtain ⟨m0, m1, m2, m3, m4⟩ := Blk.c5 PS4.out.bm
    have bfz := PS4.out.bs.frozen
    have rfz := PS4.out.br.frozen
    have hzl := PS4.out.br.lt
    by_cases hk : k < l2.length
    · have hi1 : (k : Int) < (l2.length : Int) := by omega
      obtain ⟨a, ha⟩ : ∃ a, l2[k]? = some a := ⟨_, List.getElem?_eq_getElem (by omega)⟩
      obtain ⟨bq, oq, rfl, hbq, e0, e1, e2, e3, e4, e5⟩ := rowsW PS4.out.p2.1 ha
      have hne := any_no HANY.out ha
      obtain ⟨sq8, hsq8⟩ : ∃ x, x = a.w.m.sq := ⟨_, rfl⟩
      rw [← hsq8] at e1 hne
      clear ha hsq8 e0 e2 e3 e4 e5
      have hee : (sq8 == sq) = false := by simpa using hne
      clear hne
      go_wp2_with fail
      go_quiet (fail)
      go_wp2_with fail
      go_roundg (gk - 1)
      case measure => omega
      case rel => exact ⟨k + 1, by omega, by go_num, Lib.hid (PS4.out.drewN _)⟩
    obtain rfl : k = l2.length := by omega
    have hi1 : (l2.length : Int) ≤ (l2.length : Int) := Int.le_refl _
    have hfull := HFULL.out
    simp only [List.length_map] at hfull
    have hf3 : l2.length = 200 := by omega
    have hf4 : ((l2.length : Int) == 200) = true := by rw [hf3]; rfl
    have hf5 : ((l2.length) == 200) = true := by rw [hf3]; rfl
    clear hfull hf3
    go_wp2_with fail
    have PF : QSt w _ [.int .i64 le, .int .i64 mo, .int .i64 now, .bool false, .int .i64 ze, .int .i64 fi, .int .i64 hi, .int .i64 ND, .int .i64 sp, .int .i64 tr, .slice A2 l2.length c2, .int .i64 la, .int .i64 tw, .int .i64 PD] [.int .i64 sq, .int .i64 ti, .bool mk, .int .u8 ty, .slice MA pl.length mc] A1 l1 A2 l2.length c2 l2 := PS4.out
    obtain ⟨BF, F1, F2, F3, F4, F5, UF⟩ := PF.fin [.int .i64 le, .int .i64 mo, .int .i64 now, .bool false, .int .i64 ze, .int .i64 fi, .int .i64 hi, .int .i64 ND, .int .i64 sp, .int .i64 tr, .slice A2 l2.length c2, .int .i64 la, .int .i64 tw, .int .i64 PD] rfl
    simp only [setRow, Nat.zero_add, Nat.reduceAdd] at BF F1 F2 UF
    have hp : Jb.put0 ⟨le, mo, now, false, ze, fi, hi, ND, sp, tr, l2.map TW.w, la, tw, PD⟩ ⟨sq, ti, mk, ty, pl⟩ = (⟨le, mo, now, false, ze, fi, hi, ND, sp, tr, l2.map TW.w, la, tw, PD⟩, 4) := put0_full _ _ HANY.out (fun h => Bool.noConfusion h.1) HFULL.out
    refine bodyPost_ret (v := .tuple #[.agg (List.toArray [.int .i64 le, .int .i64 mo, .int .i64 now, .bool false, .int .i64 ze, .int .i64 fi, .int .i64 hi, .int .i64 ND, .int .i64 sp, .int .i64 tr, .slice A2 l2.length c2, .int .i64 la, .int .i64 tw, .int .i64 PD]), .slice A1 l1.length c1, .int .u8 4, .int .u8 0]) (res_cttt Try.results12 rfl (run_loadVar_row (P := Try.prog) _ _ _ _ _ _ _ BF Try.underlying26 rfl (by kernel_rfl)) rfl rfl rfl) rfl ⟨A1, c1, l1, A2, c2, l2, ?_, ?_, ?_, F1, F2, by rw [F3]; exact F4, F5, UF⟩
    · rw [HPUT.out, hp]; rfl
    · rw [HPUT.out]; exact HM1.out
    · rw [HPUT.out, hp]
end Go.Proofs.Ytnaafjdnmbajjaa

/- Layer 30: the queue of the reference. -/
import Derived.Test.YtnaafjdnmbajjaaJtPutAllQ
import Derived.Test.YtnaafjdnmbajjaaJtPutSQ
namespace Go.Proofs.Ytnaafjdnmbajjaa
open Go.RowKit
set_option linter.unusedVariables false
set_option linter.unusedSimpArgs false
attribute [local go_sem ↓] run_min_plain run_max_plain
attribute [local go_sem] setCell_drewN alloc_drewN
set_option maxRecDepth 100000 in
set_option maxHeartbeats 12800000 in
theorem rqueue_any (le mo nw : Int) (on : Bool) (ze fi hi dn sp tr : Int) (A : Option Addr) (l : List TW) (n qc : Nat) (la tw pd : Int) (w : World) (hn : l.length = n) (hl : n ≤ 100000) (hA : Wts w w.heap.size A l) (hP : ∀ a ∈ l, a.w.m.pl.length ≤ 1000000000) (v : Bool) (hv : v = decide (Jb.okQ nw hi (l.map TW.w))) : Calls Try.prog 44 #[.agg #[.int .i64 le, .int .i64 mo, .int .i64 nw, .bool on, .int .i64 ze, .int .i64 fi, .int .i64 hi, .int .i64 dn, .int .i64 sp, .int .i64 tr, .slice A n qc, .int .i64 la, .int .i64 tw, .int .i64 pd]] w fun e w' => e = .returned (.bool v) ∧ Below w.heap.size w w' := by
  subst hn
  have HA := Lib.hid hA
  have HP := Lib.hid hP
  have HV := Lib.hid hv
  clear hA hP hv
  by_cases h200 : l.length ≤ 200
  rotate_left
  · have hv : v = false := by rw [HV.out, decide_eq_false_iff_not]; intro h; exact h200 (by simpa using h.1)
    subst hv
    have h201 : (200 : Int) < (l.length : Int) := by omega
    go_enter Try.func44, Try.ntmps44
    go_wp2_with fail
    go_ret
    exact ⟨by first | rfl | simp, (Below.refl _ _).alloc (Nat.le_refl _) _⟩
  have h201 : (l.length : Int) ≤ (200 : Int) := by omega
  go_enter Try.func44, Try.ntmps44
  go_wp2_with fail
  go_loopg [3] l.length (fun gk i wr => ∃ k : Nat, gk + k = l.length ∧ i = .int .i64 k ∧ Hid (∀ j, j < k → Jb.okAt nw hi (l.map TW.w) j) ∧ Hid (Blk wr w.heap.size 26 #[.int .i64 le, .int .i64 mo, .int .i64 nw, .bool on, .int .i64 ze, .int .i64 fi, .int .i64 hi, .int .i64 dn, .int .i64 sp, .int .i64 tr, .slice A l.length qc, .int .i64 la, .int .i64 tw, .int .i64 pd]) ∧ Hid (Bel w wr))
  case atStart => exact ⟨0, rfl, rfl, Lib.hid (fun j h => absurd h (by omega)), Lib.hid (Blk.new w _ _), Lib.hid ((Bel.refl w).push _)⟩
  case round =>
    obtain ⟨k, hgk, rfl, HT, BS, U⟩ := hrel
    obtain ⟨wo, hwo⟩ : ∃ W, W = wr := ⟨_, rfl⟩
    subst hwo
    have hi0 : (0 : Int) ≤ (k : Int) := by omega
    have hwl := BS.out.lt
    have p2 := BS.out.at 2 _ rfl
    have p6 := BS.out.at 6 _ rfl
    have p10 := BS.out.at 10 _ rfl
    by_cases hk : k < l.length
    rotate_left
    · obtain rfl : k = l.length := by omega
      have hi1 : (l.length : Int) ≤ (l.length : Int) := Int.le_refl _
      have hv : v = true := by rw [HV.out, decide_eq_true_iff]; exact ⟨by simpa using h200, fun j hj => HT.out j (by simpa using hj)⟩
      subst hv
      go_wp2_with fail
      go_ret
      exact ⟨by first | rfl | simp, U.out⟩
    have hi1 : (k : Int) < (l.length : Int) := by omega
    obtain ⟨a, ha⟩ : ∃ a, l[k]? = some a := ⟨_, List.getElem?_eq_getElem hk⟩
    obtain ⟨b, off, rfl, hbB, e0, e1, e2, e3, e4, e5⟩ := rowsW (HA.out.1.keep (fun p hp => U.out.cell hp)) ha
    have hpa := HP.out a (List.mem_of_getElem? ha)
    have hm : (l.map TW.w)[k]? = some a.w := by rw [List.getElem?_map, ha]; rfl
    have HN : Hid (¬Jb.okAt nw hi (l.map TW.w) k → v = false) := Lib.hid (fun hnot => by rw [HV.out, decide_eq_false_iff_not]; intro h; exact hnot (h.2 k (by simpa using hk)))
    have HO := Lib.hid (okAt_of nw hi (l.map TW.w) k a.w hm)
    have HMM := Lib.hid hm
    obtain ⟨⟨at0, ⟨sq0, ti0, mk0, ty0, pl0⟩⟩, B0, c0⟩ := a
    simp only at e0 e1 e2 e3 e4 e5 hpa HO HMM
    obtain ⟨fv, hfv⟩ : ∃ fv, fv = decide ((0 ≤ sq0 ∧ sq0 ≤ 281474976710656) ∧ (-281474976710656 ≤ ti0 ∧ ti0 ≤ 281474976710656) ∧ pl0.length ≤ 1500) := ⟨_, rfl⟩
    have k1 := Lib.hid fun W => rformed_any sq0 ti0 mk0 ty0 B0 pl0.length c0 W hpa fv hfv
    have HF : Hid (fv = decide (Jb.Md.ok ⟨sq0, ti0, mk0, ty0, pl0⟩)) := Lib.hid hfv
    clear ha hm hfv
    have BX := Lib.hid (Blk.new wo 50 #[.int .i64 at0, .int .i64 sq0, .int .i64 ti0, .bool mk0, .int .u8 ty0, .slice B0 pl0.length c0])
    have BS1 := Lib.hid (BS.out.push (.cells #[.int .i64 at0, .int .i64 sq0, .int .i64 ti0, .bool mk0, .int .u8 ty0, .slice B0 pl0.length c0] 50))
    have U1 := Lib.hid (U.out.push (.cells #[.int .i64 at0, .int .i64 sq0, .int .i64 ti0, .bool mk0, .int .u8 ty0, .slice B0 pl0.length c0] 50))
    obtain ⟨wx, hwx⟩ : ∃ W, W = wo.alloc (.cells #[.int .i64 at0, .int .i64 sq0, .int .i64 ti0, .bool mk0, .int .u8 ty0, .slice B0 pl0.length c0] 50) := ⟨_, rfl⟩
    rw [← hwx] at BX BS1 U1
    have HWX := Lib.hid hwx
    clear hwx
    have hxl := BX.out.lt
    have hxs := BS1.out.lt
    have f0 := BX.out.at 0 _ rfl
    have f1 := BX.out.at 1 _ rfl
    have f2 := BX.out.at 2 _ rfl
    have f3 := BX.out.at 3 _ rfl
    have f4 := BX.out.at 4 _ rfl
    have f5 := BX.out.at 5 _ rfl
    have g2 := BS1.out.at 2 _ rfl
    have g6 := BS1.out.at 6 _ rfl
    have g10 := BS1.out.at 10 _ rfl
    have hU : Below wx.heap.size wx wx := Below.refl _ _
    cases fv
    · have hv : v = false := HN.out (fun h => by have h9 := (HO.out.1 h).1; obtain ⟨h1, h2, h3, h4⟩ := h9; have h2' : nw < at0 := h2; have h3' : at0 ≤ 562949953421312 := h3; have h4' : sq0 ≤ hi := h4; have hf := HF.out; rw [eq_comm, decide_eq_false_iff_not] at hf; exact hf h1)
      subst hv
      go_wp2_with fail
      rw [← HWX.out]
      refine wp_region_held_drew (S := fun w' => Below wx.heap.size wx w' ∧ w'.cell? ⟨wo.heap.size, 0, none⟩ = some (.int .i64 at0) ∧ w'.cell? ⟨wo.heap.size, 1, none⟩ = some (.int .i64 sq0) ∧ w'.cell? ⟨wo.heap.size, 2, none⟩ = some (.int .i64 ti0) ∧ w'.cell? ⟨wo.heap.size, 3, none⟩ = some (.bool mk0) ∧ w'.cell? ⟨wo.heap.size, 4, none⟩ = some (.int .u8 ty0) ∧ w'.cell? ⟨wo.heap.size, 5, none⟩ = some (.slice B0 pl0.length c0) ∧ w'.cell? ⟨w.heap.size, 2, none⟩ = some (.int .i64 nw) ∧ w'.cell? ⟨w.heap.size, 6, none⟩ = some (.int .i64 hi) ∧ w'.cell? ⟨w.heap.size, 10, none⟩ = some (.slice (some ⟨b, off, none⟩) l.length qc)) (by kernel_rfl) ?_ (fun hHeld => ?_)
      · (first | assumption | ((try go_split_ands); refine and_dep ?_ (fun hbX => ⟨cell_old hbX f0, cell_old hbX f1, cell_old hbX f2, cell_old hbX f3, cell_old hbX f4, cell_old hbX f5, cell_old hbX g2, cell_old hbX g6, cell_old hbX g10⟩); (with_reducible repeat first | assumption | exact below_old' (by assumption) (by assumption) | refine Below.drew ?_ | refine below_new_old ?_ _)))
      first
        | (refine tk1 (i := 0) (v := ?_) rfl (Or.inl ⟨by rfl, ?_⟩) (by assumption) ?_
           rotate_left
           · (intro w hSw; (try dsimp only at hSw); go_simp; try with_reducible rfl))
        | refine tk1 (i := 0) (v := undef) rfl (Or.inr ⟨by rfl, rfl⟩) (by assumption) ?_
      try simp only [List.getElem_toArray, List.getElem_cons_zero, List.getElem_cons_succ, Act.put, List.setIfInBounds_toArray, List.set_cons_zero, List.set_cons_succ]
      first
        | (refine tk1 (i := 1) (v := ?_) rfl (Or.inl ⟨by rfl, ?_⟩) (by assumption) ?_
           rotate_left
           · (intro w hSw; (try dsimp only at hSw); go_simp; try with_reducible rfl))
        | refine tk1 (i := 1) (v := undef) rfl (Or.inr ⟨by rfl, rfl⟩) (by assumption) ?_
      try simp only [List.getElem_toArray, List.getElem_cons_zero, List.getElem_cons_succ, Act.put, List.setIfInBounds_toArray, List.set_cons_zero, List.set_cons_succ]
      refine wpAnyH_ready (rs := [2]) (by kernel_rfl) (by simp) ?_
      refine AllReadyH.cons (o := _) rfl (fun K hK => ?_) ?_
      rotate_left
      · exact AllReadyH.nil
      go_simp
      (go_at_call 25; refine (k1.out _).mono ?_; rintro e w' ⟨rfl, hbel⟩; have hbw : Below wx.heap.size wx w' := below_old' hbel (by (try go_split_ands); assumption); obtain ⟨hcc, hff⟩ := bcell hbel)
      refine hK.out _ _ ?_ (fun hHeld => ?_)
      · (try dsimp only)
        (first | assumption | ((try go_split_ands); refine and_dep ?_ (fun hbX => ⟨cell_old hbX f0, cell_old hbX f1, cell_old hbX f2, cell_old hbX f3, cell_old hbX f4, cell_old hbX f5, cell_old hbX g2, cell_old hbX g6, cell_old hbX g10⟩); (with_reducible repeat first | assumption | exact below_old' (by assumption) (by assumption) | refine Below.drew ?_ | refine below_new_old ?_ _)))
      clear hK K
      try simp only [List.getElem_toArray, List.getElem_cons_zero, List.getElem_cons_succ, Act.put, List.setIfInBounds_toArray, List.set_cons_zero, List.set_cons_succ]
      first
        | (refine tk1 (i := 3) (v := ?_) rfl (Or.inl ⟨by rfl, ?_⟩) (by assumption) ?_
           rotate_left
           · (intro w hSw; (try dsimp only at hSw); go_simp; try with_reducible rfl))
        | refine tk1 (i := 3) (v := undef) rfl (Or.inr ⟨by rfl, rfl⟩) (by assumption) ?_
      try simp only [List.getElem_toArray, List.getElem_cons_zero, List.getElem_cons_succ, Act.put, List.setIfInBounds_toArray, List.set_cons_zero, List.set_cons_succ]
      first
        | (refine tk1 (i := 4) (v := ?_) rfl (Or.inl ⟨by rfl, ?_⟩) (by assumption) ?_
           rotate_left
           · (intro w hSw; (try dsimp only at hSw); go_simp; try with_reducible rfl))
        | refine tk1 (i := 4) (v := undef) rfl (Or.inr ⟨by rfl, rfl⟩) (by assumption) ?_
      try simp only [List.getElem_toArray, List.getElem_cons_zero, List.getElem_cons_succ, Act.put, List.setIfInBounds_toArray, List.set_cons_zero, List.set_cons_succ]
      first
        | (refine tk1 (i := 5) (v := ?_) rfl (Or.inl ⟨by rfl, ?_⟩) (by assumption) ?_
           rotate_left
           · (intro w hSw; (try dsimp only at hSw); go_simp; try with_reducible rfl))
        | refine tk1 (i := 5) (v := undef) rfl (Or.inr ⟨by rfl, rfl⟩) (by assumption) ?_
      try simp only [List.getElem_toArray, List.getElem_cons_zero, List.getElem_cons_succ, Act.put, List.setIfInBounds_toArray, List.set_cons_zero, List.set_cons_succ]
      first
        | (refine tk1 (i := 6) (v := ?_) rfl (Or.inl ⟨by rfl, ?_⟩) (by assumption) ?_
           rotate_left
           · (intro w hSw; (try dsimp only at hSw); go_simp; try with_reducible rfl))
        | refine tk1 (i := 6) (v := undef) rfl (Or.inr ⟨by rfl, rfl⟩) (by assumption) ?_
      try simp only [List.getElem_toArray, List.getElem_cons_zero, List.getElem_cons_succ, Act.put, List.setIfInBounds_toArray, List.set_cons_zero, List.set_cons_succ]
      first
        | (refine tk1 (i := 7) (v := ?_) rfl (Or.inl ⟨by rfl, ?_⟩) (by assumption) ?_
           rotate_left
           · (intro w hSw; (try dsimp only at hSw); go_simp; try with_reducible rfl))
        | refine tk1 (i := 7) (v := undef) rfl (Or.inr ⟨by rfl, rfl⟩) (by assumption) ?_
      try simp only [List.getElem_toArray, List.getElem_cons_zero, List.getElem_cons_succ, Act.put, List.setIfInBounds_toArray, List.set_cons_zero, List.set_cons_succ]
      first
        | (refine tk1 (i := 8) (v := ?_) rfl (Or.inl ⟨by rfl, ?_⟩) (by assumption) ?_
           rotate_left
           · (intro w hSw; (try dsimp only at hSw); go_simp; try with_reducible rfl))
        | refine tk1 (i := 8) (v := undef) rfl (Or.inr ⟨by rfl, rfl⟩) (by assumption) ?_
      try simp only [List.getElem_toArray, List.getElem_cons_zero, List.getElem_cons_succ, Act.put, List.setIfInBounds_toArray, List.set_cons_zero, List.set_cons_succ]
      first
        | (refine tk1 (i := 9) (v := ?_) rfl (Or.inl ⟨by rfl, ?_⟩) (by assumption) ?_
           rotate_left
           · (intro w hSw; (try dsimp only at hSw); go_simp; try with_reducible rfl))
        | refine tk1 (i := 9) (v := undef) rfl (Or.inr ⟨by rfl, rfl⟩) (by assumption) ?_
      try simp only [List.getElem_toArray, List.getElem_cons_zero, List.getElem_cons_succ, Act.put, List.setIfInBounds_toArray, List.set_cons_zero, List.set_cons_succ]
      first
        | (refine tk1 (i := 10) (v := ?_) rfl (Or.inl ⟨by rfl, ?_⟩) (by assumption) ?_
           rotate_left
           · (intro w hSw; (try dsimp only at hSw); go_simp; try with_reducible rfl))
        | refine tk1 (i := 10) (v := undef) rfl (Or.inr ⟨by rfl, rfl⟩) (by assumption) ?_
      try simp only [List.getElem_toArray, List.getElem_cons_zero, List.getElem_cons_succ, Act.put, List.setIfInBounds_toArray, List.set_cons_zero, List.set_cons_succ]
      first
        | (refine tk1 (i := 11) (v := ?_) rfl (Or.inl ⟨by rfl, ?_⟩) (by assumption) ?_
           rotate_left
           · (intro w hSw; (try dsimp only at hSw); go_simp; try with_reducible rfl))
        | refine tk1 (i := 11) (v := undef) rfl (Or.inr ⟨by rfl, rfl⟩) (by assumption) ?_
      try simp only [List.getElem_toArray, List.getElem_cons_zero, List.getElem_cons_succ, Act.put, List.setIfInBounds_toArray, List.set_cons_zero, List.set_cons_succ]
      first
        | (refine tk1 (i := 12) (v := ?_) rfl (Or.inl ⟨by rfl, ?_⟩) (by assumption) ?_
           rotate_left
           · (intro w hSw; (try dsimp only at hSw); go_simp; try with_reducible rfl))
        | refine tk1 (i := 12) (v := undef) rfl (Or.inr ⟨by rfl, rfl⟩) (by assumption) ?_
      try simp only [List.getElem_toArray, List.getElem_cons_zero, List.getElem_cons_succ, Act.put, List.setIfInBounds_toArray, List.set_cons_zero, List.set_cons_succ]
      first
        | (refine tk1 (i := 13) (v := ?_) rfl (Or.inl ⟨by rfl, ?_⟩) (by assumption) ?_
           rotate_left
           · (intro w hSw; (try dsimp only at hSw); go_simp; try with_reducible rfl))
        | refine tk1 (i := 13) (v := undef) rfl (Or.inr ⟨by rfl, rfl⟩) (by assumption) ?_
      try simp only [List.getElem_toArray, List.getElem_cons_zero, List.getElem_cons_succ, Act.put, List.setIfInBounds_toArray, List.set_cons_zero, List.set_cons_succ]
      first
        | (refine tk1 (i := 14) (v := ?_) rfl (Or.inl ⟨by rfl, ?_⟩) (by assumption) ?_
           rotate_left
           · (intro w hSw; (try dsimp only at hSw); go_simp; try with_reducible rfl))
        | refine tk1 (i := 14) (v := undef) rfl (Or.inr ⟨by rfl, rfl⟩) (by assumption) ?_
      try simp only [List.getElem_toArray, List.getElem_cons_zero, List.getElem_cons_succ, Act.put, List.setIfInBounds_toArray, List.set_cons_zero, List.set_cons_succ]
      first
        | (refine tk1 (i := 15) (v := ?_) rfl (Or.inl ⟨by rfl, ?_⟩) (by assumption) ?_
           rotate_left
           · (intro w hSw; (try dsimp only at hSw); go_simp; try with_reducible rfl))
        | refine tk1 (i := 15) (v := undef) rfl (Or.inr ⟨by rfl, rfl⟩) (by assumption) ?_
      try simp only [List.getElem_toArray, List.getElem_cons_zero, List.getElem_cons_succ, Act.put, List.setIfInBounds_toArray, List.set_cons_zero, List.set_cons_succ]
      first
        | (refine tk1 (i := 16) (v := ?_) rfl (Or.inl ⟨by rfl, ?_⟩) (by assumption) ?_
           rotate_left
           · (intro w hSw; (try dsimp only at hSw); go_simp; try with_reducible rfl))
        | refine tk1 (i := 16) (v := undef) rfl (Or.inr ⟨by rfl, rfl⟩) (by assumption) ?_
      try simp only [List.getElem_toArray, List.getElem_cons_zero, List.getElem_cons_succ, Act.put, List.setIfInBounds_toArray, List.set_cons_zero, List.set_cons_succ]
      first
        | (refine tk1 (i := 17) (v := ?_) rfl (Or.inl ⟨by rfl, ?_⟩) (by assumption) ?_
           rotate_left
           · (intro w hSw; (try dsimp only at hSw); go_simp; try with_reducible rfl))
        | refine tk1 (i := 17) (v := undef) rfl (Or.inr ⟨by rfl, rfl⟩) (by assumption) ?_
      try simp only [List.getElem_toArray, List.getElem_cons_zero, List.getElem_cons_succ, Act.put, List.setIfInBounds_toArray, List.set_cons_zero, List.set_cons_succ]
      first
        | (refine tk1 (i := 18) (v := ?_) rfl (Or.inl ⟨by rfl, ?_⟩) (by assumption) ?_
           rotate_left
           · (intro w hSw; (try dsimp only at hSw); go_simp; try with_reducible rfl))
        | refine tk1 (i := 18) (v := undef) rfl (Or.inr ⟨by rfl, rfl⟩) (by assumption) ?_
      try simp only [List.getElem_toArray, List.getElem_cons_zero, List.getElem_cons_succ, Act.put, List.setIfInBounds_toArray, List.set_cons_zero, List.set_cons_succ]
      first
        | (refine tk1 (i := 19) (v := ?_) rfl (Or.inl ⟨by rfl, ?_⟩) (by assumption) ?_
           rotate_left
           · (intro w hSw; (try dsimp only at hSw); go_simp; try with_reducible rfl))
        | refine tk1 (i := 19) (v := undef) rfl (Or.inr ⟨by rfl, rfl⟩) (by assumption) ?_
      try simp only [List.getElem_toArray, List.getElem_cons_zero, List.getElem_cons_succ, Act.put, List.setIfInBounds_toArray, List.set_cons_zero, List.set_cons_succ]
      first
        | (refine tk1 (i := 20) (v := ?_) rfl (Or.inl ⟨by rfl, ?_⟩) (by assumption) ?_
           rotate_left
           · (intro w hSw; (try dsimp only at hSw); go_simp; try with_reducible rfl))
        | refine tk1 (i := 20) (v := undef) rfl (Or.inr ⟨by rfl, rfl⟩) (by assumption) ?_
      try simp only [List.getElem_toArray, List.getElem_cons_zero, List.getElem_cons_succ, Act.put, List.setIfInBounds_toArray, List.set_cons_zero, List.set_cons_succ]
      first
        | (refine tk1 (i := 21) (v := ?_) rfl (Or.inl ⟨by rfl, ?_⟩) (by assumption) ?_
           rotate_left
           · (intro w hSw; (try dsimp only at hSw); go_simp; try with_reducible rfl))
        | refine tk1 (i := 21) (v := undef) rfl (Or.inr ⟨by rfl, rfl⟩) (by assumption) ?_
      try simp only [List.getElem_toArray, List.getElem_cons_zero, List.getElem_cons_succ, Act.put, List.setIfInBounds_toArray, List.set_cons_zero, List.set_cons_succ]
      first
        | (refine tk1 (i := 22) (v := ?_) rfl (Or.inl ⟨by rfl, ?_⟩) (by assumption) ?_
           rotate_left
           · (intro w hSw; (try dsimp only at hSw); go_simp; try with_reducible rfl))
        | refine tk1 (i := 22) (v := undef) rfl (Or.inr ⟨by rfl, rfl⟩) (by assumption) ?_
      try simp only [List.getElem_toArray, List.getElem_cons_zero, List.getElem_cons_succ, Act.put, List.setIfInBounds_toArray, List.set_cons_zero, List.set_cons_succ]
      first
        | (refine tk1 (i := 23) (v := ?_) rfl (Or.inl ⟨by rfl, ?_⟩) (by assumption) ?_
           rotate_left
           · (intro w hSw; (try dsimp only at hSw); go_simp; try with_reducible rfl))
        | refine tk1 (i := 23) (v := undef) rfl (Or.inr ⟨by rfl, rfl⟩) (by assumption) ?_
      try simp only [List.getElem_toArray, List.getElem_cons_zero, List.getElem_cons_succ, Act.put, List.setIfInBounds_toArray, List.set_cons_zero, List.set_cons_succ]
      first
        | (refine tk1 (i := 24) (v := ?_) rfl (Or.inl ⟨by rfl, ?_⟩) (by assumption) ?_
           rotate_left
           · (intro w hSw; (try dsimp only at hSw); go_simp; try with_reducible rfl))
        | refine tk1 (i := 24) (v := undef) rfl (Or.inr ⟨by rfl, rfl⟩) (by assumption) ?_
      try simp only [List.getElem_toArray, List.getElem_cons_zero, List.getElem_cons_succ, Act.put, List.setIfInBounds_toArray, List.set_cons_zero, List.set_cons_succ]
      first
        | (refine tk1 (i := 25) (v := ?_) rfl (Or.inl ⟨by rfl, ?_⟩) (by assumption) ?_
           rotate_left
           · (intro w hSw; (try dsimp only at hSw); go_simp; try with_reducible rfl))
        | refine tk1 (i := 25) (v := undef) rfl (Or.inr ⟨by rfl, rfl⟩) (by assumption) ?_
      try simp only [List.getElem_toArray, List.getElem_cons_zero, List.getElem_cons_succ, Act.put, List.setIfInBounds_toArray, List.set_cons_zero, List.set_cons_succ]
      first
        | (refine tk1 (i := 26) (v := ?_) rfl (Or.inl ⟨by rfl, ?_⟩) (by assumption) ?_
           rotate_left
           · (intro w hSw; (try dsimp only at hSw); go_simp; try with_reducible rfl))
        | refine tk1 (i := 26) (v := undef) rfl (Or.inr ⟨by rfl, rfl⟩) (by assumption) ?_
      try simp only [List.getElem_toArray, List.getElem_cons_zero, List.getElem_cons_succ, Act.put, List.setIfInBounds_toArray, List.set_cons_zero, List.set_cons_succ]
      first
        | (refine tk1 (i := 27) (v := ?_) rfl (Or.inl ⟨by rfl, ?_⟩) (by assumption) ?_
           rotate_left
           · (intro w hSw; (try dsimp only at hSw); go_simp; try with_reducible rfl))
        | refine tk1 (i := 27) (v := undef) rfl (Or.inr ⟨by rfl, rfl⟩) (by assumption) ?_
      try simp only [List.getElem_toArray, List.getElem_cons_zero, List.getElem_cons_succ, Act.put, List.setIfInBounds_toArray, List.set_cons_zero, List.set_cons_succ]
      first
        | (refine tk1 (i := 28) (v := ?_) rfl (Or.inl ⟨by rfl, ?_⟩) (by assumption) ?_
           rotate_left
           · (intro w hSw; (try dsimp only at hSw); go_simp; try with_reducible rfl))
        | refine tk1 (i := 28) (v := undef) rfl (Or.inr ⟨by rfl, rfl⟩) (by assumption) ?_
      try simp only [List.getElem_toArray, List.getElem_cons_zero, List.getElem_cons_succ, Act.put, List.setIfInBounds_toArray, List.set_cons_zero, List.set_cons_succ]
      first
        | (refine tk1 (i := 29) (v := ?_) rfl (Or.inl ⟨by rfl, ?_⟩) (by assumption) ?_
           rotate_left
           · (intro w hSw; (try dsimp only at hSw); go_simp; try with_reducible rfl))
        | refine tk1 (i := 29) (v := undef) rfl (Or.inr ⟨by rfl, rfl⟩) (by assumption) ?_
      try simp only [List.getElem_toArray, List.getElem_cons_zero, List.getElem_cons_succ, Act.put, List.setIfInBounds_toArray, List.set_cons_zero, List.set_cons_succ]
      first
        | (refine tk1 (i := 30) (v := ?_) rfl (Or.inl ⟨by rfl, ?_⟩) (by assumption) ?_
           rotate_left
           · (intro w hSw; (try dsimp only at hSw); go_simp; try with_reducible rfl))
        | refine tk1 (i := 30) (v := undef) rfl (Or.inr ⟨by rfl, rfl⟩) (by assumption) ?_
      try simp only [List.getElem_toArray, List.getElem_cons_zero, List.getElem_cons_succ, Act.put, List.setIfInBounds_toArray, List.set_cons_zero, List.set_cons_succ]
      first
        | (refine tk1 (i := 31) (v := ?_) rfl (Or.inl ⟨by rfl, ?_⟩) (by assumption) ?_
           rotate_left
           · (intro w hSw; (try dsimp only at hSw); go_simp; try with_reducible rfl))
        | refine tk1 (i := 31) (v := undef) rfl (Or.inr ⟨by rfl, rfl⟩) (by assumption) ?_
      try simp only [List.getElem_toArray, List.getElem_cons_zero, List.getElem_cons_succ, Act.put, List.setIfInBounds_toArray, List.set_cons_zero, List.set_cons_succ]
      first
        | (refine tk1 (i := 32) (v := ?_) rfl (Or.inl ⟨by rfl, ?_⟩) (by assumption) ?_
           rotate_left
           · (intro w hSw; (try dsimp only at hSw); go_simp; try with_reducible rfl))
        | refine tk1 (i := 32) (v := undef) rfl (Or.inr ⟨by rfl, rfl⟩) (by assumption) ?_
      try simp only [List.getElem_toArray, List.getElem_cons_zero, List.getElem_cons_succ, Act.put, List.setIfInBounds_toArray, List.set_cons_zero, List.set_cons_succ]
      first
        | (refine tk1 (i := 33) (v := ?_) rfl (Or.inl ⟨by rfl, ?_⟩) (by assumption) ?_
           rotate_left
           · (intro w hSw; (try dsimp only at hSw); go_simp; try with_reducible rfl))
        | refine tk1 (i := 33) (v := undef) rfl (Or.inr ⟨by rfl, rfl⟩) (by assumption) ?_
      try simp only [List.getElem_toArray, List.getElem_cons_zero, List.getElem_cons_succ, Act.put, List.setIfInBounds_toArray, List.set_cons_zero, List.set_cons_succ]
      first
        | (refine tk1 (i := 34) (v := ?_) rfl (Or.inl ⟨by rfl, ?_⟩) (by assumption) ?_
           rotate_left
           · (intro w hSw; (try dsimp only at hSw); go_simp; try with_reducible rfl))
        | refine tk1 (i := 34) (v := undef) rfl (Or.inr ⟨by rfl, rfl⟩) (by assumption) ?_
      try simp only [List.getElem_toArray, List.getElem_cons_zero, List.getElem_cons_succ, Act.put, List.setIfInBounds_toArray, List.set_cons_zero, List.set_cons_succ]
      first
        | (refine tk1 (i := 35) (v := ?_) rfl (Or.inl ⟨by rfl, ?_⟩) (by assumption) ?_
           rotate_left
           · (intro w hSw; (try dsimp only at hSw); go_simp; try with_reducible rfl))
        | refine tk1 (i := 35) (v := undef) rfl (Or.inr ⟨by rfl, rfl⟩) (by assumption) ?_
      try simp only [List.getElem_toArray, List.getElem_cons_zero, List.getElem_cons_succ, Act.put, List.setIfInBounds_toArray, List.set_cons_zero, List.set_cons_succ]
      first
        | (refine tk1 (i := 36) (v := ?_) rfl (Or.inl ⟨by rfl, ?_⟩) (by assumption) ?_
           rotate_left
           · (intro w hSw; (try dsimp only at hSw); go_simp; try with_reducible rfl))
        | refine tk1 (i := 36) (v := undef) rfl (Or.inr ⟨by rfl, rfl⟩) (by assumption) ?_
      try simp only [List.getElem_toArray, List.getElem_cons_zero, List.getElem_cons_succ, Act.put, List.setIfInBounds_toArray, List.set_cons_zero, List.set_cons_succ]
      first
        | (refine tk1 (i := 37) (v := ?_) rfl (Or.inl ⟨by rfl, ?_⟩) (by assumption) ?_
           rotate_left
           · (intro w hSw; (try dsimp only at hSw); go_simp; try with_reducible rfl))
        | refine tk1 (i := 37) (v := undef) rfl (Or.inr ⟨by rfl, rfl⟩) (by assumption) ?_
      try simp only [List.getElem_toArray, List.getElem_cons_zero, List.getElem_cons_succ, Act.put, List.setIfInBounds_toArray, List.set_cons_zero, List.set_cons_succ]
      first
        | (refine tk1 (i := 38) (v := ?_) rfl (Or.inl ⟨by rfl, ?_⟩) (by assumption) ?_
           rotate_left
           · (intro w hSw; (try dsimp only at hSw); go_simp; try with_reducible rfl))
        | refine tk1 (i := 38) (v := undef) rfl (Or.inr ⟨by rfl, rfl⟩) (by assumption) ?_
      try simp only [List.getElem_toArray, List.getElem_cons_zero, List.getElem_cons_succ, Act.put, List.setIfInBounds_toArray, List.set_cons_zero, List.set_cons_succ]
      refine wpAnyH_done (by kernel_rfl) ?_ _
      all_goals
        have UZ := Lib.hid (U1.out.later hbw)
        go_wp2_with fail
        go_ret
        exact ⟨by first | rfl | simp, UZ.out⟩
    have hok : Jb.Md.ok ⟨sq0, ti0, mk0, ty0, pl0⟩ := by have hf := HF.out; rw [eq_comm, decide_eq_true_iff] at hf; exact hf
    have HOK := Lib.hid hok
    clear hok HF
    by_cases c1 : at0 ≤ nw
    · have hdc1 : decide (at0 ≤ nw) = true := by simpa using c1
      have Dc1 := Lib.hid hdc1
      clear hdc1
      have hv : v = false := HN.out (fun h => by have h9 := (HO.out.1 h).1; obtain ⟨h1, h2, h3, h4⟩ := h9; have h2' : nw < at0 := h2; have h3' : at0 ≤ 562949953421312 := h3; have h4' : sq0 ≤ hi := h4; omega)
      subst hv
      go_wp2_with fail
      rw [← HWX.out]
      refine wp_region_held_drew (S := fun w' => Below wx.heap.size wx w' ∧ w'.cell? ⟨wo.heap.size, 0, none⟩ = some (.int .i64 at0) ∧ w'.cell? ⟨wo.heap.size, 1, none⟩ = some (.int .i64 sq0) ∧ w'.cell? ⟨wo.heap.size, 2, none⟩ = some (.int .i64 ti0) ∧ w'.cell? ⟨wo.heap.size, 3, none⟩ = some (.bool mk0) ∧ w'.cell? ⟨wo.heap.size, 4, none⟩ = some (.int .u8 ty0) ∧ w'.cell? ⟨wo.heap.size, 5, none⟩ = some (.slice B0 pl0.length c0) ∧ w'.cell? ⟨w.heap.size, 2, none⟩ = some (.int .i64 nw) ∧ w'.cell? ⟨w.heap.size, 6, none⟩ = some (.int .i64 hi) ∧ w'.cell? ⟨w.heap.size, 10, none⟩ = some (.slice (some ⟨b, off, none⟩) l.length qc)) (by kernel_rfl) ?_ (fun hHeld => ?_)
      · (first | assumption | ((try go_split_ands); refine and_dep ?_ (fun hbX => ⟨cell_old hbX f0, cell_old hbX f1, cell_old hbX f2, cell_old hbX f3, cell_old hbX f4, cell_old hbX f5, cell_old hbX g2, cell_old hbX g6, cell_old hbX g10⟩); (with_reducible repeat first | assumption | exact below_old' (by assumption) (by assumption) | refine Below.drew ?_ | refine below_new_old ?_ _)))
      first
        | (refine tk1 (i := 0) (v := ?_) rfl (Or.inl ⟨by rfl, ?_⟩) (by assumption) ?_
           rotate_left
           · (intro w hSw; (try dsimp only at hSw); go_simp; try with_reducible rfl))
        | refine tk1 (i := 0) (v := undef) rfl (Or.inr ⟨by rfl, rfl⟩) (by assumption) ?_
      try simp only [List.getElem_toArray, List.getElem_cons_zero, List.getElem_cons_succ, Act.put, List.setIfInBounds_toArray, List.set_cons_zero, List.set_cons_succ, Dc1.out]
      first
        | (refine tk1 (i := 1) (v := ?_) rfl (Or.inl ⟨by rfl, ?_⟩) (by assumption) ?_
           rotate_left
           · (intro w hSw; (try dsimp only at hSw); go_simp; try with_reducible rfl))
        | refine tk1 (i := 1) (v := undef) rfl (Or.inr ⟨by rfl, rfl⟩) (by assumption) ?_
      try simp only [List.getElem_toArray, List.getElem_cons_zero, List.getElem_cons_succ, Act.put, List.setIfInBounds_toArray, List.set_cons_zero, List.set_cons_succ, Dc1.out]
      refine wpAnyH_ready (rs := [2]) (by kernel_rfl) (by simp) ?_
      refine AllReadyH.cons (o := _) rfl (fun K hK => ?_) ?_
      rotate_left
      · exact AllReadyH.nil
      go_simp
      (go_at_call 25; refine (k1.out _).mono ?_; rintro e w' ⟨rfl, hbel⟩; have hbw : Below wx.heap.size wx w' := below_old' hbel (by (try go_split_ands); assumption); obtain ⟨hcc, hff⟩ := bcell hbel)
      refine hK.out _ _ ?_ (fun hHeld => ?_)
      · (try dsimp only)
        (first | assumption | ((try go_split_ands); refine and_dep ?_ (fun hbX => ⟨cell_old hbX f0, cell_old hbX f1, cell_old hbX f2, cell_old hbX f3, cell_old hbX f4, cell_old hbX f5, cell_old hbX g2, cell_old hbX g6, cell_old hbX g10⟩); (with_reducible repeat first | assumption | exact below_old' (by assumption) (by assumption) | refine Below.drew ?_ | refine below_new_old ?_ _)))
      clear hK K
      try simp only [List.getElem_toArray, List.getElem_cons_zero, List.getElem_cons_succ, Act.put, List.setIfInBounds_toArray, List.set_cons_zero, List.set_cons_succ, Dc1.out]
      first
        | (refine tk1 (i := 3) (v := ?_) rfl (Or.inl ⟨by rfl, ?_⟩) (by assumption) ?_
           rotate_left
           · (intro w hSw; (try dsimp only at hSw); go_simp; try with_reducible rfl))
        | refine tk1 (i := 3) (v := undef) rfl (Or.inr ⟨by rfl, rfl⟩) (by assumption) ?_
      try simp only [List.getElem_toArray, List.getElem_cons_zero, List.getElem_cons_succ, Act.put, List.setIfInBounds_toArray, List.set_cons_zero, List.set_cons_succ, Dc1.out]
      first
        | (refine tk1 (i := 4) (v := ?_) rfl (Or.inl ⟨by rfl, ?_⟩) (by assumption) ?_
           rotate_left
           · (intro w hSw; (try dsimp only at hSw); go_simp; try with_reducible rfl))
        | refine tk1 (i := 4) (v := undef) rfl (Or.inr ⟨by rfl, rfl⟩) (by assumption) ?_
      try simp only [List.getElem_toArray, List.getElem_cons_zero, List.getElem_cons_succ, Act.put, List.setIfInBounds_toArray, List.set_cons_zero, List.set_cons_succ, Dc1.out]
      first
        | (refine tk1 (i := 5) (v := ?_) rfl (Or.inl ⟨by rfl, ?_⟩) (by assumption) ?_
           rotate_left
           · (intro w hSw; (try dsimp only at hSw); go_simp; try with_reducible rfl))
        | refine tk1 (i := 5) (v := undef) rfl (Or.inr ⟨by rfl, rfl⟩) (by assumption) ?_
      try simp only [List.getElem_toArray, List.getElem_cons_zero, List.getElem_cons_succ, Act.put, List.setIfInBounds_toArray, List.set_cons_zero, List.set_cons_succ, Dc1.out]
      first
        | (refine tk1 (i := 6) (v := ?_) rfl (Or.inl ⟨by rfl, ?_⟩) (by assumption) ?_
           rotate_left
           · (intro w hSw; (try dsimp only at hSw); go_simp; try with_reducible rfl))
        | refine tk1 (i := 6) (v := undef) rfl (Or.inr ⟨by rfl, rfl⟩) (by assumption) ?_
      try simp only [List.getElem_toArray, List.getElem_cons_zero, List.getElem_cons_succ, Act.put, List.setIfInBounds_toArray, List.set_cons_zero, List.set_cons_succ, Dc1.out]
      first
        | (refine tk1 (i := 7) (v := ?_) rfl (Or.inl ⟨by rfl, ?_⟩) (by assumption) ?_
           rotate_left
           · (intro w hSw; (try dsimp only at hSw); go_simp; try with_reducible rfl))
        | refine tk1 (i := 7) (v := undef) rfl (Or.inr ⟨by rfl, rfl⟩) (by assumption) ?_
      try simp only [List.getElem_toArray, List.getElem_cons_zero, List.getElem_cons_succ, Act.put, List.setIfInBounds_toArray, List.set_cons_zero, List.set_cons_succ, Dc1.out]
      first
        | (refine tk1 (i := 8) (v := ?_) rfl (Or.inl ⟨by rfl, ?_⟩) (by assumption) ?_
           rotate_left
           · (intro w hSw; (try dsimp only at hSw); go_simp; try with_reducible rfl))
        | refine tk1 (i := 8) (v := undef) rfl (Or.inr ⟨by rfl, rfl⟩) (by assumption) ?_
      try simp only [List.getElem_toArray, List.getElem_cons_zero, List.getElem_cons_succ, Act.put, List.setIfInBounds_toArray, List.set_cons_zero, List.set_cons_succ, Dc1.out]
      first
        | (refine tk1 (i := 9) (v := ?_) rfl (Or.inl ⟨by rfl, ?_⟩) (by assumption) ?_
           rotate_left
           · (intro w hSw; (try dsimp only at hSw); go_simp; try with_reducible rfl))
        | refine tk1 (i := 9) (v := undef) rfl (Or.inr ⟨by rfl, rfl⟩) (by assumption) ?_
      try simp only [List.getElem_toArray, List.getElem_cons_zero, List.getElem_cons_succ, Act.put, List.setIfInBounds_toArray, List.set_cons_zero, List.set_cons_succ, Dc1.out]
      first
        | (refine tk1 (i := 10) (v := ?_) rfl (Or.inl ⟨by rfl, ?_⟩) (by assumption) ?_
           rotate_left
           · (intro w hSw; (try dsimp only at hSw); go_simp; try with_reducible rfl))
        | refine tk1 (i := 10) (v := undef) rfl (Or.inr ⟨by rfl, rfl⟩) (by assumption) ?_
      try simp only [List.getElem_toArray, List.getElem_cons_zero, List.getElem_cons_succ, Act.put, List.setIfInBounds_toArray, List.set_cons_zero, List.set_cons_succ, Dc1.out]
      first
        | (refine tk1 (i := 11) (v := ?_) rfl (Or.inl ⟨by rfl, ?_⟩) (by assumption) ?_
           rotate_left
           · (intro w hSw; (try dsimp only at hSw); go_simp; try with_reducible rfl))
        | refine tk1 (i := 11) (v := undef) rfl (Or.inr ⟨by rfl, rfl⟩) (by assumption) ?_
      try simp only [List.getElem_toArray, List.getElem_cons_zero, List.getElem_cons_succ, Act.put, List.setIfInBounds_toArray, List.set_cons_zero, List.set_cons_succ, Dc1.out]
      first
        | (refine tk1 (i := 12) (v := ?_) rfl (Or.inl ⟨by rfl, ?_⟩) (by assumption) ?_
           rotate_left
           · (intro w hSw; (try dsimp only at hSw); go_simp; try with_reducible rfl))
        | refine tk1 (i := 12) (v := undef) rfl (Or.inr ⟨by rfl, rfl⟩) (by assumption) ?_
      try simp only [List.getElem_toArray, List.getElem_cons_zero, List.getElem_cons_succ, Act.put, List.setIfInBounds_toArray, List.set_cons_zero, List.set_cons_succ, Dc1.out]
      first
        | (refine tk1 (i := 13) (v := ?_) rfl (Or.inl ⟨by rfl, ?_⟩) (by assumption) ?_
           rotate_left
           · (intro w hSw; (try dsimp only at hSw); go_simp; try with_reducible rfl))
        | refine tk1 (i := 13) (v := undef) rfl (Or.inr ⟨by rfl, rfl⟩) (by assumption) ?_
      try simp only [List.getElem_toArray, List.getElem_cons_zero, List.getElem_cons_succ, Act.put, List.setIfInBounds_toArray, List.set_cons_zero, List.set_cons_succ, Dc1.out]
      first
        | (refine tk1 (i := 14) (v := ?_) rfl (Or.inl ⟨by rfl, ?_⟩) (by assumption) ?_
           rotate_left
           · (intro w hSw; (try dsimp only at hSw); go_simp; try with_reducible rfl))
        | refine tk1 (i := 14) (v := undef) rfl (Or.inr ⟨by rfl, rfl⟩) (by assumption) ?_
      try simp only [List.getElem_toArray, List.getElem_cons_zero, List.getElem_cons_succ, Act.put, List.setIfInBounds_toArray, List.set_cons_zero, List.set_cons_succ, Dc1.out]
      first
        | (refine tk1 (i := 15) (v := ?_) rfl (Or.inl ⟨by rfl, ?_⟩) (by assumption) ?_
           rotate_left
           · (intro w hSw; (try dsimp only at hSw); go_simp; try with_reducible rfl))
        | refine tk1 (i := 15) (v := undef) rfl (Or.inr ⟨by rfl, rfl⟩) (by assumption) ?_
      try simp only [List.getElem_toArray, List.getElem_cons_zero, List.getElem_cons_succ, Act.put, List.setIfInBounds_toArray, List.set_cons_zero, List.set_cons_succ, Dc1.out]
      first
        | (refine tk1 (i := 16) (v := ?_) rfl (Or.inl ⟨by rfl, ?_⟩) (by assumption) ?_
           rotate_left
           · (intro w hSw; (try dsimp only at hSw); go_simp; try with_reducible rfl))
        | refine tk1 (i := 16) (v := undef) rfl (Or.inr ⟨by rfl, rfl⟩) (by assumption) ?_
      try simp only [List.getElem_toArray, List.getElem_cons_zero, List.getElem_cons_succ, Act.put, List.setIfInBounds_toArray, List.set_cons_zero, List.set_cons_succ, Dc1.out]
      first
        | (refine tk1 (i := 17) (v := ?_) rfl (Or.inl ⟨by rfl, ?_⟩) (by assumption) ?_
           rotate_left
           · (intro w hSw; (try dsimp only at hSw); go_simp; try with_reducible rfl))
        | refine tk1 (i := 17) (v := undef) rfl (Or.inr ⟨by rfl, rfl⟩) (by assumption) ?_
      try simp only [List.getElem_toArray, List.getElem_cons_zero, List.getElem_cons_succ, Act.put, List.setIfInBounds_toArray, List.set_cons_zero, List.set_cons_succ, Dc1.out]
      first
        | (refine tk1 (i := 18) (v := ?_) rfl (Or.inl ⟨by rfl, ?_⟩) (by assumption) ?_
           rotate_left
           · (intro w hSw; (try dsimp only at hSw); go_simp; try with_reducible rfl))
        | refine tk1 (i := 18) (v := undef) rfl (Or.inr ⟨by rfl, rfl⟩) (by assumption) ?_
      try simp only [List.getElem_toArray, List.getElem_cons_zero, List.getElem_cons_succ, Act.put, List.setIfInBounds_toArray, List.set_cons_zero, List.set_cons_succ, Dc1.out]
      first
        | (refine tk1 (i := 19) (v := ?_) rfl (Or.inl ⟨by rfl, ?_⟩) (by assumption) ?_
           rotate_left
           · (intro w hSw; (try dsimp only at hSw); go_simp; try with_reducible rfl))
        | refine tk1 (i := 19) (v := undef) rfl (Or.inr ⟨by rfl, rfl⟩) (by assumption) ?_
      try simp only [List.getElem_toArray, List.getElem_cons_zero, List.getElem_cons_succ, Act.put, List.setIfInBounds_toArray, List.set_cons_zero, List.set_cons_succ, Dc1.out]
      first
        | (refine tk1 (i := 20) (v := ?_) rfl (Or.inl ⟨by rfl, ?_⟩) (by assumption) ?_
           rotate_left
           · (intro w hSw; (try dsimp only at hSw); go_simp; try with_reducible rfl))
        | refine tk1 (i := 20) (v := undef) rfl (Or.inr ⟨by rfl, rfl⟩) (by assumption) ?_
      try simp only [List.getElem_toArray, List.getElem_cons_zero, List.getElem_cons_succ, Act.put, List.setIfInBounds_toArray, List.set_cons_zero, List.set_cons_succ, Dc1.out]
      first
        | (refine tk1 (i := 21) (v := ?_) rfl (Or.inl ⟨by rfl, ?_⟩) (by assumption) ?_
           rotate_left
           · (intro w hSw; (try dsimp only at hSw); go_simp; try with_reducible rfl))
        | refine tk1 (i := 21) (v := undef) rfl (Or.inr ⟨by rfl, rfl⟩) (by assumption) ?_
      try simp only [List.getElem_toArray, List.getElem_cons_zero, List.getElem_cons_succ, Act.put, List.setIfInBounds_toArray, List.set_cons_zero, List.set_cons_succ, Dc1.out]
      first
        | (refine tk1 (i := 22) (v := ?_) rfl (Or.inl ⟨by rfl, ?_⟩) (by assumption) ?_
           rotate_left
           · (intro w hSw; (try dsimp only at hSw); go_simp; try with_reducible rfl))
        | refine tk1 (i := 22) (v := undef) rfl (Or.inr ⟨by rfl, rfl⟩) (by assumption) ?_
      try simp only [List.getElem_toArray, List.getElem_cons_zero, List.getElem_cons_succ, Act.put, List.setIfInBounds_toArray, List.set_cons_zero, List.set_cons_succ, Dc1.out]
      first
        | (refine tk1 (i := 23) (v := ?_) rfl (Or.inl ⟨by rfl, ?_⟩) (by assumption) ?_
           rotate_left
           · (intro w hSw; (try dsimp only at hSw); go_simp; try with_reducible rfl))
        | refine tk1 (i := 23) (v := undef) rfl (Or.inr ⟨by rfl, rfl⟩) (by assumption) ?_
      try simp only [List.getElem_toArray, List.getElem_cons_zero, List.getElem_cons_succ, Act.put, List.setIfInBounds_toArray, List.set_cons_zero, List.set_cons_succ, Dc1.out]
      first
        | (refine tk1 (i := 24) (v := ?_) rfl (Or.inl ⟨by rfl, ?_⟩) (by assumption) ?_
           rotate_left
           · (intro w hSw; (try dsimp only at hSw); go_simp; try with_reducible rfl))
        | refine tk1 (i := 24) (v := undef) rfl (Or.inr ⟨by rfl, rfl⟩) (by assumption) ?_
      try simp only [List.getElem_toArray, List.getElem_cons_zero, List.getElem_cons_succ, Act.put, List.setIfInBounds_toArray, List.set_cons_zero, List.set_cons_succ, Dc1.out]
      first
        | (refine tk1 (i := 25) (v := ?_) rfl (Or.inl ⟨by rfl, ?_⟩) (by assumption) ?_
           rotate_left
           · (intro w hSw; (try dsimp only at hSw); go_simp; try with_reducible rfl))
        | refine tk1 (i := 25) (v := undef) rfl (Or.inr ⟨by rfl, rfl⟩) (by assumption) ?_
      try simp only [List.getElem_toArray, List.getElem_cons_zero, List.getElem_cons_succ, Act.put, List.setIfInBounds_toArray, List.set_cons_zero, List.set_cons_succ, Dc1.out]
      first
        | (refine tk1 (i := 26) (v := ?_) rfl (Or.inl ⟨by rfl, ?_⟩) (by assumption) ?_
           rotate_left
           · (intro w hSw; (try dsimp only at hSw); go_simp; try with_reducible rfl))
        | refine tk1 (i := 26) (v := undef) rfl (Or.inr ⟨by rfl, rfl⟩) (by assumption) ?_
      try simp only [List.getElem_toArray, List.getElem_cons_zero, List.getElem_cons_succ, Act.put, List.setIfInBounds_toArray, List.set_cons_zero, List.set_cons_succ, Dc1.out]
      first
        | (refine tk1 (i := 27) (v := ?_) rfl (Or.inl ⟨by rfl, ?_⟩) (by assumption) ?_
           rotate_left
           · (intro w hSw; (try dsimp only at hSw); go_simp; try with_reducible rfl))
        | refine tk1 (i := 27) (v := undef) rfl (Or.inr ⟨by rfl, rfl⟩) (by assumption) ?_
      try simp only [List.getElem_toArray, List.getElem_cons_zero, List.getElem_cons_succ, Act.put, List.setIfInBounds_toArray, List.set_cons_zero, List.set_cons_succ, Dc1.out]
      first
        | (refine tk1 (i := 28) (v := ?_) rfl (Or.inl ⟨by rfl, ?_⟩) (by assumption) ?_
           rotate_left
           · (intro w hSw; (try dsimp only at hSw); go_simp; try with_reducible rfl))
        | refine tk1 (i := 28) (v := undef) rfl (Or.inr ⟨by rfl, rfl⟩) (by assumption) ?_
      try simp only [List.getElem_toArray, List.getElem_cons_zero, List.getElem_cons_succ, Act.put, List.setIfInBounds_toArray, List.set_cons_zero, List.set_cons_succ, Dc1.out]
      first
        | (refine tk1 (i := 29) (v := ?_) rfl (Or.inl ⟨by rfl, ?_⟩) (by assumption) ?_
           rotate_left
           · (intro w hSw; (try dsimp only at hSw); go_simp; try with_reducible rfl))
        | refine tk1 (i := 29) (v := undef) rfl (Or.inr ⟨by rfl, rfl⟩) (by assumption) ?_
      try simp only [List.getElem_toArray, List.getElem_cons_zero, List.getElem_cons_succ, Act.put, List.setIfInBounds_toArray, List.set_cons_zero, List.set_cons_succ, Dc1.out]
      first
        | (refine tk1 (i := 30) (v := ?_) rfl (Or.inl ⟨by rfl, ?_⟩) (by assumption) ?_
           rotate_left
           · (intro w hSw; (try dsimp only at hSw); go_simp; try with_reducible rfl))
        | refine tk1 (i := 30) (v := undef) rfl (Or.inr ⟨by rfl, rfl⟩) (by assumption) ?_
      try simp only [List.getElem_toArray, List.getElem_cons_zero, List.getElem_cons_succ, Act.put, List.setIfInBounds_toArray, List.set_cons_zero, List.set_cons_succ, Dc1.out]
      first
        | (refine tk1 (i := 31) (v := ?_) rfl (Or.inl ⟨by rfl, ?_⟩) (by assumption) ?_
           rotate_left
           · (intro w hSw; (try dsimp only at hSw); go_simp; try with_reducible rfl))
        | refine tk1 (i := 31) (v := undef) rfl (Or.inr ⟨by rfl, rfl⟩) (by assumption) ?_
      try simp only [List.getElem_toArray, List.getElem_cons_zero, List.getElem_cons_succ, Act.put, List.setIfInBounds_toArray, List.set_cons_zero, List.set_cons_succ, Dc1.out]
      first
        | (refine tk1 (i := 32) (v := ?_) rfl (Or.inl ⟨by rfl, ?_⟩) (by assumption) ?_
           rotate_left
           · (intro w hSw; (try dsimp only at hSw); go_simp; try with_reducible rfl))
        | refine tk1 (i := 32) (v := undef) rfl (Or.inr ⟨by rfl, rfl⟩) (by assumption) ?_
      try simp only [List.getElem_toArray, List.getElem_cons_zero, List.getElem_cons_succ, Act.put, List.setIfInBounds_toArray, List.set_cons_zero, List.set_cons_succ, Dc1.out]
      first
        | (refine tk1 (i := 33) (v := ?_) rfl (Or.inl ⟨by rfl, ?_⟩) (by assumption) ?_
           rotate_left
           · (intro w hSw; (try dsimp only at hSw); go_simp; try with_reducible rfl))
        | refine tk1 (i := 33) (v := undef) rfl (Or.inr ⟨by rfl, rfl⟩) (by assumption) ?_
      try simp only [List.getElem_toArray, List.getElem_cons_zero, List.getElem_cons_succ, Act.put, List.setIfInBounds_toArray, List.set_cons_zero, List.set_cons_succ, Dc1.out]
      first
        | (refine tk1 (i := 34) (v := ?_) rfl (Or.inl ⟨by rfl, ?_⟩) (by assumption) ?_
           rotate_left
           · (intro w hSw; (try dsimp only at hSw); go_simp; try with_reducible rfl))
        | refine tk1 (i := 34) (v := undef) rfl (Or.inr ⟨by rfl, rfl⟩) (by assumption) ?_
      try simp only [List.getElem_toArray, List.getElem_cons_zero, List.getElem_cons_succ, Act.put, List.setIfInBounds_toArray, List.set_cons_zero, List.set_cons_succ, Dc1.out]
      first
        | (refine tk1 (i := 35) (v := ?_) rfl (Or.inl ⟨by rfl, ?_⟩) (by assumption) ?_
           rotate_left
           · (intro w hSw; (try dsimp only at hSw); go_simp; try with_reducible rfl))
        | refine tk1 (i := 35) (v := undef) rfl (Or.inr ⟨by rfl, rfl⟩) (by assumption) ?_
      try simp only [List.getElem_toArray, List.getElem_cons_zero, List.getElem_cons_succ, Act.put, List.setIfInBounds_toArray, List.set_cons_zero, List.set_cons_succ, Dc1.out]
      first
        | (refine tk1 (i := 36) (v := ?_) rfl (Or.inl ⟨by rfl, ?_⟩) (by assumption) ?_
           rotate_left
           · (intro w hSw; (try dsimp only at hSw); go_simp; try with_reducible rfl))
        | refine tk1 (i := 36) (v := undef) rfl (Or.inr ⟨by rfl, rfl⟩) (by assumption) ?_
      try simp only [List.getElem_toArray, List.getElem_cons_zero, List.getElem_cons_succ, Act.put, List.setIfInBounds_toArray, List.set_cons_zero, List.set_cons_succ, Dc1.out]
      first
        | (refine tk1 (i := 37) (v := ?_) rfl (Or.inl ⟨by rfl, ?_⟩) (by assumption) ?_
           rotate_left
           · (intro w hSw; (try dsimp only at hSw); go_simp; try with_reducible rfl))
        | refine tk1 (i := 37) (v := undef) rfl (Or.inr ⟨by rfl, rfl⟩) (by assumption) ?_
      try simp only [List.getElem_toArray, List.getElem_cons_zero, List.getElem_cons_succ, Act.put, List.setIfInBounds_toArray, List.set_cons_zero, List.set_cons_succ, Dc1.out]
      first
        | (refine tk1 (i := 38) (v := ?_) rfl (Or.inl ⟨by rfl, ?_⟩) (by assumption) ?_
           rotate_left
           · (intro w hSw; (try dsimp only at hSw); go_simp; try with_reducible rfl))
        | refine tk1 (i := 38) (v := undef) rfl (Or.inr ⟨by rfl, rfl⟩) (by assumption) ?_
      try simp only [List.getElem_toArray, List.getElem_cons_zero, List.getElem_cons_succ, Act.put, List.setIfInBounds_toArray, List.set_cons_zero, List.set_cons_succ, Dc1.out]
      refine wpAnyH_done (by kernel_rfl) ?_ _
      all_goals
        have UZ := Lib.hid (U1.out.later hbw)
        go_wp2_with fail
        go_ret
        exact ⟨by first | rfl | simp, UZ.out⟩
    have c1' : nw < at0 := by omega
    have hdc1 : decide (at0 ≤ nw) = false := by rw [decide_eq_false_iff_not]; omega
    have Dc1 := Lib.hid hdc1
    clear c1 hdc1
    by_cases c2 : 562949953421312 < at0
    · have hdc2 : decide (562949953421312 < at0) = true := by simpa using c2
      have Dc2 := Lib.hid hdc2
      clear hdc2
      have hv : v = false := HN.out (fun h => by have h9 := (HO.out.1 h).1; obtain ⟨h1, h2, h3, h4⟩ := h9; have h2' : nw < at0 := h2; have h3' : at0 ≤ 562949953421312 := h3; have h4' : sq0 ≤ hi := h4; omega)
      subst hv
      go_wp2_with fail
      rw [← HWX.out]
      refine wp_region_held_drew (S := fun w' => Below wx.heap.size wx w' ∧ w'.cell? ⟨wo.heap.size, 0, none⟩ = some (.int .i64 at0) ∧ w'.cell? ⟨wo.heap.size, 1, none⟩ = some (.int .i64 sq0) ∧ w'.cell? ⟨wo.heap.size, 2, none⟩ = some (.int .i64 ti0) ∧ w'.cell? ⟨wo.heap.size, 3, none⟩ = some (.bool mk0) ∧ w'.cell? ⟨wo.heap.size, 4, none⟩ = some (.int .u8 ty0) ∧ w'.cell? ⟨wo.heap.size, 5, none⟩ = some (.slice B0 pl0.length c0) ∧ w'.cell? ⟨w.heap.size, 2, none⟩ = some (.int .i64 nw) ∧ w'.cell? ⟨w.heap.size, 6, none⟩ = some (.int .i64 hi) ∧ w'.cell? ⟨w.heap.size, 10, none⟩ = some (.slice (some ⟨b, off, none⟩) l.length qc)) (by kernel_rfl) ?_ (fun hHeld => ?_)
      · (first | assumption | ((try go_split_ands); refine and_dep ?_ (fun hbX => ⟨cell_old hbX f0, cell_old hbX f1, cell_old hbX f2, cell_old hbX f3, cell_old hbX f4, cell_old hbX f5, cell_old hbX g2, cell_old hbX g6, cell_old hbX g10⟩); (with_reducible repeat first | assumption | exact below_old' (by assumption) (by assumption) | refine Below.drew ?_ | refine below_new_old ?_ _)))
      first
        | (refine tk1 (i := 0) (v := ?_) rfl (Or.inl ⟨by rfl, ?_⟩) (by assumption) ?_
           rotate_left
           · (intro w hSw; (try dsimp only at hSw); go_simp; try with_reducible rfl))
        | refine tk1 (i := 0) (v := undef) rfl (Or.inr ⟨by rfl, rfl⟩) (by assumption) ?_
      try simp only [List.getElem_toArray, List.getElem_cons_zero, List.getElem_cons_succ, Act.put, List.setIfInBounds_toArray, List.set_cons_zero, List.set_cons_succ, Dc1.out, Dc2.out]
      first
        | (refine tk1 (i := 1) (v := ?_) rfl (Or.inl ⟨by rfl, ?_⟩) (by assumption) ?_
           rotate_left
           · (intro w hSw; (try dsimp only at hSw); go_simp; try with_reducible rfl))
        | refine tk1 (i := 1) (v := undef) rfl (Or.inr ⟨by rfl, rfl⟩) (by assumption) ?_
      try simp only [List.getElem_toArray, List.getElem_cons_zero, List.getElem_cons_succ, Act.put, List.setIfInBounds_toArray, List.set_cons_zero, List.set_cons_succ, Dc1.out, Dc2.out]
      refine wpAnyH_ready (rs := [2]) (by kernel_rfl) (by simp) ?_
      refine AllReadyH.cons (o := _) rfl (fun K hK => ?_) ?_
      rotate_left
      · exact AllReadyH.nil
      go_simp
      (go_at_call 25; refine (k1.out _).mono ?_; rintro e w' ⟨rfl, hbel⟩; have hbw : Below wx.heap.size wx w' := below_old' hbel (by (try go_split_ands); assumption); obtain ⟨hcc, hff⟩ := bcell hbel)
      refine hK.out _ _ ?_ (fun hHeld => ?_)
      · (try dsimp only)
        (first | assumption | ((try go_split_ands); refine and_dep ?_ (fun hbX => ⟨cell_old hbX f0, cell_old hbX f1, cell_old hbX f2, cell_old hbX f3, cell_old hbX f4, cell_old hbX f5, cell_old hbX g2, cell_old hbX g6, cell_old hbX g10⟩); (with_reducible repeat first | assumption | exact below_old' (by assumption) (by assumption) | refine Below.drew ?_ | refine below_new_old ?_ _)))
      clear hK K
      try simp only [List.getElem_toArray, List.getElem_cons_zero, List.getElem_cons_succ, Act.put, List.setIfInBounds_toArray, List.set_cons_zero, List.set_cons_succ, Dc1.out, Dc2.out]
      first
        | (refine tk1 (i := 3) (v := ?_) rfl (Or.inl ⟨by rfl, ?_⟩) (by assumption) ?_
           rotate_left
           · (intro w hSw; (try dsimp only at hSw); go_simp; try with_reducible rfl))
        | refine tk1 (i := 3) (v := undef) rfl (Or.inr ⟨by rfl, rfl⟩) (by assumption) ?_
      try simp only [List.getElem_toArray, List.getElem_cons_zero, List.getElem_cons_succ, Act.put, List.setIfInBounds_toArray, List.set_cons_zero, List.set_cons_succ, Dc1.out, Dc2.out]
      first
        | (refine tk1 (i := 4) (v := ?_) rfl (Or.inl ⟨by rfl, ?_⟩) (by assumption) ?_
           rotate_left
           · (intro w hSw; (try dsimp only at hSw); go_simp; try with_reducible rfl))
        | refine tk1 (i := 4) (v := undef) rfl (Or.inr ⟨by rfl, rfl⟩) (by assumption) ?_
      try simp only [List.getElem_toArray, List.getElem_cons_zero, List.getElem_cons_succ, Act.put, List.setIfInBounds_toArray, List.set_cons_zero, List.set_cons_succ, Dc1.out, Dc2.out]
      first
        | (refine tk1 (i := 5) (v := ?_) rfl (Or.inl ⟨by rfl, ?_⟩) (by assumption) ?_
           rotate_left
           · (intro w hSw; (try dsimp only at hSw); go_simp; try with_reducible rfl))
        | refine tk1 (i := 5) (v := undef) rfl (Or.inr ⟨by rfl, rfl⟩) (by assumption) ?_
      try simp only [List.getElem_toArray, List.getElem_cons_zero, List.getElem_cons_succ, Act.put, List.setIfInBounds_toArray, List.set_cons_zero, List.set_cons_succ, Dc1.out, Dc2.out]
      first
        | (refine tk1 (i := 6) (v := ?_) rfl (Or.inl ⟨by rfl, ?_⟩) (by assumption) ?_
           rotate_left
           · (intro w hSw; (try dsimp only at hSw); go_simp; try with_reducible rfl))
        | refine tk1 (i := 6) (v := undef) rfl (Or.inr ⟨by rfl, rfl⟩) (by assumption) ?_
      try simp only [List.getElem_toArray, List.getElem_cons_zero, List.getElem_cons_succ, Act.put, List.setIfInBounds_toArray, List.set_cons_zero, List.set_cons_succ, Dc1.out, Dc2.out]
      first
        | (refine tk1 (i := 7) (v := ?_) rfl (Or.inl ⟨by rfl, ?_⟩) (by assumption) ?_
           rotate_left
           · (intro w hSw; (try dsimp only at hSw); go_simp; try with_reducible rfl))
        | refine tk1 (i := 7) (v := undef) rfl (Or.inr ⟨by rfl, rfl⟩) (by assumption) ?_
      try simp only [List.getElem_toArray, List.getElem_cons_zero, List.getElem_cons_succ, Act.put, List.setIfInBounds_toArray, List.set_cons_zero, List.set_cons_succ, Dc1.out, Dc2.out]
      first
        | (refine tk1 (i := 8) (v := ?_) rfl (Or.inl ⟨by rfl, ?_⟩) (by assumption) ?_
           rotate_left
           · (intro w hSw; (try dsimp only at hSw); go_simp; try with_reducible rfl))
        | refine tk1 (i := 8) (v := undef) rfl (Or.inr ⟨by rfl, rfl⟩) (by assumption) ?_
      try simp only [List.getElem_toArray, List.getElem_cons_zero, List.getElem_cons_succ, Act.put, List.setIfInBounds_toArray, List.set_cons_zero, List.set_cons_succ, Dc1.out, Dc2.out]
      first
        | (refine tk1 (i := 9) (v := ?_) rfl (Or.inl ⟨by rfl, ?_⟩) (by assumption) ?_
           rotate_left
           · (intro w hSw; (try dsimp only at hSw); go_simp; try with_reducible rfl))
        | refine tk1 (i := 9) (v := undef) rfl (Or.inr ⟨by rfl, rfl⟩) (by assumption) ?_
      try simp only [List.getElem_toArray, List.getElem_cons_zero, List.getElem_cons_succ, Act.put, List.setIfInBounds_toArray, List.set_cons_zero, List.set_cons_succ, Dc1.out, Dc2.out]
      first
        | (refine tk1 (i := 10) (v := ?_) rfl (Or.inl ⟨by rfl, ?_⟩) (by assumption) ?_
           rotate_left
           · (intro w hSw; (try dsimp only at hSw); go_simp; try with_reducible rfl))
        | refine tk1 (i := 10) (v := undef) rfl (Or.inr ⟨by rfl, rfl⟩) (by assumption) ?_
      try simp only [List.getElem_toArray, List.getElem_cons_zero, List.getElem_cons_succ, Act.put, List.setIfInBounds_toArray, List.set_cons_zero, List.set_cons_succ, Dc1.out, Dc2.out]
      first
        | (refine tk1 (i := 11) (v := ?_) rfl (Or.inl ⟨by rfl, ?_⟩) (by assumption) ?_
           rotate_left
           · (intro w hSw; (try dsimp only at hSw); go_simp; try with_reducible rfl))
        | refine tk1 (i := 11) (v := undef) rfl (Or.inr ⟨by rfl, rfl⟩) (by assumption) ?_
      try simp only [List.getElem_toArray, List.getElem_cons_zero, List.getElem_cons_succ, Act.put, List.setIfInBounds_toArray, List.set_cons_zero, List.set_cons_succ, Dc1.out, Dc2.out]
      first
        | (refine tk1 (i := 12) (v := ?_) rfl (Or.inl ⟨by rfl, ?_⟩) (by assumption) ?_
           rotate_left
           · (intro w hSw; (try dsimp only at hSw); go_simp; try with_reducible rfl))
        | refine tk1 (i := 12) (v := undef) rfl (Or.inr ⟨by rfl, rfl⟩) (by assumption) ?_
      try simp only [List.getElem_toArray, List.getElem_cons_zero, List.getElem_cons_succ, Act.put, List.setIfInBounds_toArray, List.set_cons_zero, List.set_cons_succ, Dc1.out, Dc2.out]
      first
        | (refine tk1 (i := 13) (v := ?_) rfl (Or.inl ⟨by rfl, ?_⟩) (by assumption) ?_
           rotate_left
           · (intro w hSw; (try dsimp only at hSw); go_simp; try with_reducible rfl))
        | refine tk1 (i := 13) (v := undef) rfl (Or.inr ⟨by rfl, rfl⟩) (by assumption) ?_
      try simp only [List.getElem_toArray, List.getElem_cons_zero, List.getElem_cons_succ, Act.put, List.setIfInBounds_toArray, List.set_cons_zero, List.set_cons_succ, Dc1.out, Dc2.out]
      first
        | (refine tk1 (i := 14) (v := ?_) rfl (Or.inl ⟨by rfl, ?_⟩) (by assumption) ?_
           rotate_left
           · (intro w hSw; (try dsimp only at hSw); go_simp; try with_reducible rfl))
        | refine tk1 (i := 14) (v := undef) rfl (Or.inr ⟨by rfl, rfl⟩) (by assumption) ?_
      try simp only [List.getElem_toArray, List.getElem_cons_zero, List.getElem_cons_succ, Act.put, List.setIfInBounds_toArray, List.set_cons_zero, List.set_cons_succ, Dc1.out, Dc2.out]
      first
        | (refine tk1 (i := 15) (v := ?_) rfl (Or.inl ⟨by rfl, ?_⟩) (by assumption) ?_
           rotate_left
           · (intro w hSw; (try dsimp only at hSw); go_simp; try with_reducible rfl))
        | refine tk1 (i := 15) (v := undef) rfl (Or.inr ⟨by rfl, rfl⟩) (by assumption) ?_
      try simp only [List.getElem_toArray, List.getElem_cons_zero, List.getElem_cons_succ, Act.put, List.setIfInBounds_toArray, List.set_cons_zero, List.set_cons_succ, Dc1.out, Dc2.out]
      first
        | (refine tk1 (i := 16) (v := ?_) rfl (Or.inl ⟨by rfl, ?_⟩) (by assumption) ?_
           rotate_left
           · (intro w hSw; (try dsimp only at hSw); go_simp; try with_reducible rfl))
        | refine tk1 (i := 16) (v := undef) rfl (Or.inr ⟨by rfl, rfl⟩) (by assumption) ?_
      try simp only [List.getElem_toArray, List.getElem_cons_zero, List.getElem_cons_succ, Act.put, List.setIfInBounds_toArray, List.set_cons_zero, List.set_cons_succ, Dc1.out, Dc2.out]
      first
        | (refine tk1 (i := 17) (v := ?_) rfl (Or.inl ⟨by rfl, ?_⟩) (by assumption) ?_
           rotate_left
           · (intro w hSw; (try dsimp only at hSw); go_simp; try with_reducible rfl))
        | refine tk1 (i := 17) (v := undef) rfl (Or.inr ⟨by rfl, rfl⟩) (by assumption) ?_
      try simp only [List.getElem_toArray, List.getElem_cons_zero, List.getElem_cons_succ, Act.put, List.setIfInBounds_toArray, List.set_cons_zero, List.set_cons_succ, Dc1.out, Dc2.out]
      first
        | (refine tk1 (i := 18) (v := ?_) rfl (Or.inl ⟨by rfl, ?_⟩) (by assumption) ?_
           rotate_left
           · (intro w hSw; (try dsimp only at hSw); go_simp; try with_reducible rfl))
        | refine tk1 (i := 18) (v := undef) rfl (Or.inr ⟨by rfl, rfl⟩) (by assumption) ?_
      try simp only [List.getElem_toArray, List.getElem_cons_zero, List.getElem_cons_succ, Act.put, List.setIfInBounds_toArray, List.set_cons_zero, List.set_cons_succ, Dc1.out, Dc2.out]
      first
        | (refine tk1 (i := 19) (v := ?_) rfl (Or.inl ⟨by rfl, ?_⟩) (by assumption) ?_
           rotate_left
           · (intro w hSw; (try dsimp only at hSw); go_simp; try with_reducible rfl))
        | refine tk1 (i := 19) (v := undef) rfl (Or.inr ⟨by rfl, rfl⟩) (by assumption) ?_
      try simp only [List.getElem_toArray, List.getElem_cons_zero, List.getElem_cons_succ, Act.put, List.setIfInBounds_toArray, List.set_cons_zero, List.set_cons_succ, Dc1.out, Dc2.out]
      first
        | (refine tk1 (i := 20) (v := ?_) rfl (Or.inl ⟨by rfl, ?_⟩) (by assumption) ?_
           rotate_left
           · (intro w hSw; (try dsimp only at hSw); go_simp; try with_reducible rfl))
        | refine tk1 (i := 20) (v := undef) rfl (Or.inr ⟨by rfl, rfl⟩) (by assumption) ?_
      try simp only [List.getElem_toArray, List.getElem_cons_zero, List.getElem_cons_succ, Act.put, List.setIfInBounds_toArray, List.set_cons_zero, List.set_cons_succ, Dc1.out, Dc2.out]
      first
        | (refine tk1 (i := 21) (v := ?_) rfl (Or.inl ⟨by rfl, ?_⟩) (by assumption) ?_
           rotate_left
           · (intro w hSw; (try dsimp only at hSw); go_simp; try with_reducible rfl))
        | refine tk1 (i := 21) (v := undef) rfl (Or.inr ⟨by rfl, rfl⟩) (by assumption) ?_
      try simp only [List.getElem_toArray, List.getElem_cons_zero, List.getElem_cons_succ, Act.put, List.setIfInBounds_toArray, List.set_cons_zero, List.set_cons_succ, Dc1.out, Dc2.out]
      first
        | (refine tk1 (i := 22) (v := ?_) rfl (Or.inl ⟨by rfl, ?_⟩) (by assumption) ?_
           rotate_left
           · (intro w hSw; (try dsimp only at hSw); go_simp; try with_reducible rfl))
        | refine tk1 (i := 22) (v := undef) rfl (Or.inr ⟨by rfl, rfl⟩) (by assumption) ?_
      try simp only [List.getElem_toArray, List.getElem_cons_zero, List.getElem_cons_succ, Act.put, List.setIfInBounds_toArray, List.set_cons_zero, List.set_cons_succ, Dc1.out, Dc2.out]
      first
        | (refine tk1 (i := 23) (v := ?_) rfl (Or.inl ⟨by rfl, ?_⟩) (by assumption) ?_
           rotate_left
           · (intro w hSw; (try dsimp only at hSw); go_simp; try with_reducible rfl))
        | refine tk1 (i := 23) (v := undef) rfl (Or.inr ⟨by rfl, rfl⟩) (by assumption) ?_
      try simp only [List.getElem_toArray, List.getElem_cons_zero, List.getElem_cons_succ, Act.put, List.setIfInBounds_toArray, List.set_cons_zero, List.set_cons_succ, Dc1.out, Dc2.out]
      first
        | (refine tk1 (i := 24) (v := ?_) rfl (Or.inl ⟨by rfl, ?_⟩) (by assumption) ?_
           rotate_left
           · (intro w hSw; (try dsimp only at hSw); go_simp; try with_reducible rfl))
        | refine tk1 (i := 24) (v := undef) rfl (Or.inr ⟨by rfl, rfl⟩) (by assumption) ?_
      try simp only [List.getElem_toArray, List.getElem_cons_zero, List.getElem_cons_succ, Act.put, List.setIfInBounds_toArray, List.set_cons_zero, List.set_cons_succ, Dc1.out, Dc2.out]
      first
        | (refine tk1 (i := 25) (v := ?_) rfl (Or.inl ⟨by rfl, ?_⟩) (by assumption) ?_
           rotate_left
           · (intro w hSw; (try dsimp only at hSw); go_simp; try with_reducible rfl))
        | refine tk1 (i := 25) (v := undef) rfl (Or.inr ⟨by rfl, rfl⟩) (by assumption) ?_
      try simp only [List.getElem_toArray, List.getElem_cons_zero, List.getElem_cons_succ, Act.put, List.setIfInBounds_toArray, List.set_cons_zero, List.set_cons_succ, Dc1.out, Dc2.out]
      first
        | (refine tk1 (i := 26) (v := ?_) rfl (Or.inl ⟨by rfl, ?_⟩) (by assumption) ?_
           rotate_left
           · (intro w hSw; (try dsimp only at hSw); go_simp; try with_reducible rfl))
        | refine tk1 (i := 26) (v := undef) rfl (Or.inr ⟨by rfl, rfl⟩) (by assumption) ?_
      try simp only [List.getElem_toArray, List.getElem_cons_zero, List.getElem_cons_succ, Act.put, List.setIfInBounds_toArray, List.set_cons_zero, List.set_cons_succ, Dc1.out, Dc2.out]
      first
        | (refine tk1 (i := 27) (v := ?_) rfl (Or.inl ⟨by rfl, ?_⟩) (by assumption) ?_
           rotate_left
           · (intro w hSw; (try dsimp only at hSw); go_simp; try with_reducible rfl))
        | refine tk1 (i := 27) (v := undef) rfl (Or.inr ⟨by rfl, rfl⟩) (by assumption) ?_
      try simp only [List.getElem_toArray, List.getElem_cons_zero, List.getElem_cons_succ, Act.put, List.setIfInBounds_toArray, List.set_cons_zero, List.set_cons_succ, Dc1.out, Dc2.out]
      first
        | (refine tk1 (i := 28) (v := ?_) rfl (Or.inl ⟨by rfl, ?_⟩) (by assumption) ?_
           rotate_left
           · (intro w hSw; (try dsimp only at hSw); go_simp; try with_reducible rfl))
        | refine tk1 (i := 28) (v := undef) rfl (Or.inr ⟨by rfl, rfl⟩) (by assumption) ?_
      try simp only [List.getElem_toArray, List.getElem_cons_zero, List.getElem_cons_succ, Act.put, List.setIfInBounds_toArray, List.set_cons_zero, List.set_cons_succ, Dc1.out, Dc2.out]
      first
        | (refine tk1 (i := 29) (v := ?_) rfl (Or.inl ⟨by rfl, ?_⟩) (by assumption) ?_
           rotate_left
           · (intro w hSw; (try dsimp only at hSw); go_simp; try with_reducible rfl))
        | refine tk1 (i := 29) (v := undef) rfl (Or.inr ⟨by rfl, rfl⟩) (by assumption) ?_
      try simp only [List.getElem_toArray, List.getElem_cons_zero, List.getElem_cons_succ, Act.put, List.setIfInBounds_toArray, List.set_cons_zero, List.set_cons_succ, Dc1.out, Dc2.out]
      first
        | (refine tk1 (i := 30) (v := ?_) rfl (Or.inl ⟨by rfl, ?_⟩) (by assumption) ?_
           rotate_left
           · (intro w hSw; (try dsimp only at hSw); go_simp; try with_reducible rfl))
        | refine tk1 (i := 30) (v := undef) rfl (Or.inr ⟨by rfl, rfl⟩) (by assumption) ?_
      try simp only [List.getElem_toArray, List.getElem_cons_zero, List.getElem_cons_succ, Act.put, List.setIfInBounds_toArray, List.set_cons_zero, List.set_cons_succ, Dc1.out, Dc2.out]
      first
        | (refine tk1 (i := 31) (v := ?_) rfl (Or.inl ⟨by rfl, ?_⟩) (by assumption) ?_
           rotate_left
           · (intro w hSw; (try dsimp only at hSw); go_simp; try with_reducible rfl))
        | refine tk1 (i := 31) (v := undef) rfl (Or.inr ⟨by rfl, rfl⟩) (by assumption) ?_
      try simp only [List.getElem_toArray, List.getElem_cons_zero, List.getElem_cons_succ, Act.put, List.setIfInBounds_toArray, List.set_cons_zero, List.set_cons_succ, Dc1.out, Dc2.out]
      first
        | (refine tk1 (i := 32) (v := ?_) rfl (Or.inl ⟨by rfl, ?_⟩) (by assumption) ?_
           rotate_left
           · (intro w hSw; (try dsimp only at hSw); go_simp; try with_reducible rfl))
        | refine tk1 (i := 32) (v := undef) rfl (Or.inr ⟨by rfl, rfl⟩) (by assumption) ?_
      try simp only [List.getElem_toArray, List.getElem_cons_zero, List.getElem_cons_succ, Act.put, List.setIfInBounds_toArray, List.set_cons_zero, List.set_cons_succ, Dc1.out, Dc2.out]
      first
        | (refine tk1 (i := 33) (v := ?_) rfl (Or.inl ⟨by rfl, ?_⟩) (by assumption) ?_
           rotate_left
           · (intro w hSw; (try dsimp only at hSw); go_simp; try with_reducible rfl))
        | refine tk1 (i := 33) (v := undef) rfl (Or.inr ⟨by rfl, rfl⟩) (by assumption) ?_
      try simp only [List.getElem_toArray, List.getElem_cons_zero, List.getElem_cons_succ, Act.put, List.setIfInBounds_toArray, List.set_cons_zero, List.set_cons_succ, Dc1.out, Dc2.out]
      first
        | (refine tk1 (i := 34) (v := ?_) rfl (Or.inl ⟨by rfl, ?_⟩) (by assumption) ?_
           rotate_left
           · (intro w hSw; (try dsimp only at hSw); go_simp; try with_reducible rfl))
        | refine tk1 (i := 34) (v := undef) rfl (Or.inr ⟨by rfl, rfl⟩) (by assumption) ?_
      try simp only [List.getElem_toArray, List.getElem_cons_zero, List.getElem_cons_succ, Act.put, List.setIfInBounds_toArray, List.set_cons_zero, List.set_cons_succ, Dc1.out, Dc2.out]
      first
        | (refine tk1 (i := 35) (v := ?_) rfl (Or.inl ⟨by rfl, ?_⟩) (by assumption) ?_
           rotate_left
           · (intro w hSw; (try dsimp only at hSw); go_simp; try with_reducible rfl))
        | refine tk1 (i := 35) (v := undef) rfl (Or.inr ⟨by rfl, rfl⟩) (by assumption) ?_
      try simp only [List.getElem_toArray, List.getElem_cons_zero, List.getElem_cons_succ, Act.put, List.setIfInBounds_toArray, List.set_cons_zero, List.set_cons_succ, Dc1.out, Dc2.out]
      first
        | (refine tk1 (i := 36) (v := ?_) rfl (Or.inl ⟨by rfl, ?_⟩) (by assumption) ?_
           rotate_left
           · (intro w hSw; (try dsimp only at hSw); go_simp; try with_reducible rfl))
        | refine tk1 (i := 36) (v := undef) rfl (Or.inr ⟨by rfl, rfl⟩) (by assumption) ?_
      try simp only [List.getElem_toArray, List.getElem_cons_zero, List.getElem_cons_succ, Act.put, List.setIfInBounds_toArray, List.set_cons_zero, List.set_cons_succ, Dc1.out, Dc2.out]
      first
        | (refine tk1 (i := 37) (v := ?_) rfl (Or.inl ⟨by rfl, ?_⟩) (by assumption) ?_
           rotate_left
           · (intro w hSw; (try dsimp only at hSw); go_simp; try with_reducible rfl))
        | refine tk1 (i := 37) (v := undef) rfl (Or.inr ⟨by rfl, rfl⟩) (by assumption) ?_
      try simp only [List.getElem_toArray, List.getElem_cons_zero, List.getElem_cons_succ, Act.put, List.setIfInBounds_toArray, List.set_cons_zero, List.set_cons_succ, Dc1.out, Dc2.out]
      first
        | (refine tk1 (i := 38) (v := ?_) rfl (Or.inl ⟨by rfl, ?_⟩) (by assumption) ?_
           rotate_left
           · (intro w hSw; (try dsimp only at hSw); go_simp; try with_reducible rfl))
        | refine tk1 (i := 38) (v := undef) rfl (Or.inr ⟨by rfl, rfl⟩) (by assumption) ?_
      try simp only [List.getElem_toArray, List.getElem_cons_zero, List.getElem_cons_succ, Act.put, List.setIfInBounds_toArray, List.set_cons_zero, List.set_cons_succ, Dc1.out, Dc2.out]
      refine wpAnyH_done (by kernel_rfl) ?_ _
      all_goals
        have UZ := Lib.hid (U1.out.later hbw)
        go_wp2_with fail
        go_ret
        exact ⟨by first | rfl | simp, UZ.out⟩
    have c2' : at0 ≤ 562949953421312 := by omega
    have hdc2 : decide (562949953421312 < at0) = false := by rw [decide_eq_false_iff_not]; omega
    have Dc2 := Lib.hid hdc2
    clear c2 hdc2
    by_cases c3 : hi < sq0
    · have hdc3 : decide (hi < sq0) = true := by simpa using c3
      have Dc3 := Lib.hid hdc3
      clear hdc3
      have hv : v = false := HN.out (fun h => by have h9 := (HO.out.1 h).1; obtain ⟨h1, h2, h3, h4⟩ := h9; have h2' : nw < at0 := h2; have h3' : at0 ≤ 562949953421312 := h3; have h4' : sq0 ≤ hi := h4; omega)
      subst hv
      go_wp2_with fail
      rw [← HWX.out]
      refine wp_region_held_drew (S := fun w' => Below wx.heap.size wx w' ∧ w'.cell? ⟨wo.heap.size, 0, none⟩ = some (.int .i64 at0) ∧ w'.cell? ⟨wo.heap.size, 1, none⟩ = some (.int .i64 sq0) ∧ w'.cell? ⟨wo.heap.size, 2, none⟩ = some (.int .i64 ti0) ∧ w'.cell? ⟨wo.heap.size, 3, none⟩ = some (.bool mk0) ∧ w'.cell? ⟨wo.heap.size, 4, none⟩ = some (.int .u8 ty0) ∧ w'.cell? ⟨wo.heap.size, 5, none⟩ = some (.slice B0 pl0.length c0) ∧ w'.cell? ⟨w.heap.size, 2, none⟩ = some (.int .i64 nw) ∧ w'.cell? ⟨w.heap.size, 6, none⟩ = some (.int .i64 hi) ∧ w'.cell? ⟨w.heap.size, 10, none⟩ = some (.slice (some ⟨b, off, none⟩) l.length qc)) (by kernel_rfl) ?_ (fun hHeld => ?_)
      · (first | assumption | ((try go_split_ands); refine and_dep ?_ (fun hbX => ⟨cell_old hbX f0, cell_old hbX f1, cell_old hbX f2, cell_old hbX f3, cell_old hbX f4, cell_old hbX f5, cell_old hbX g2, cell_old hbX g6, cell_old hbX g10⟩); (with_reducible repeat first | assumption | exact below_old' (by assumption) (by assumption) | refine Below.drew ?_ | refine below_new_old ?_ _)))
      first
        | (refine tk1 (i := 0) (v := ?_) rfl (Or.inl ⟨by rfl, ?_⟩) (by assumption) ?_
           rotate_left
           · (intro w hSw; (try dsimp only at hSw); go_simp; try with_reducible rfl))
        | refine tk1 (i := 0) (v := undef) rfl (Or.inr ⟨by rfl, rfl⟩) (by assumption) ?_
      try simp only [List.getElem_toArray, List.getElem_cons_zero, List.getElem_cons_succ, Act.put, List.setIfInBounds_toArray, List.set_cons_zero, List.set_cons_succ, Dc1.out, Dc2.out, Dc3.out]
      first
        | (refine tk1 (i := 1) (v := ?_) rfl (Or.inl ⟨by rfl, ?_⟩) (by assumption) ?_
           rotate_left
           · (intro w hSw; (try dsimp only at hSw); go_simp; try with_reducible rfl))
        | refine tk1 (i := 1) (v := undef) rfl (Or.inr ⟨by rfl, rfl⟩) (by assumption) ?_
      try simp only [List.getElem_toArray, List.getElem_cons_zero, List.getElem_cons_succ, Act.put, List.setIfInBounds_toArray, List.set_cons_zero, List.set_cons_succ, Dc1.out, Dc2.out, Dc3.out]
      refine wpAnyH_ready (rs := [2]) (by kernel_rfl) (by simp) ?_
      refine AllReadyH.cons (o := _) rfl (fun K hK => ?_) ?_
      rotate_left
      · exact AllReadyH.nil
      go_simp
      (go_at_call 25; refine (k1.out _).mono ?_; rintro e w' ⟨rfl, hbel⟩; have hbw : Below wx.heap.size wx w' := below_old' hbel (by (try go_split_ands); assumption); obtain ⟨hcc, hff⟩ := bcell hbel)
      refine hK.out _ _ ?_ (fun hHeld => ?_)
      · (try dsimp only)
        (first | assumption | ((try go_split_ands); refine and_dep ?_ (fun hbX => ⟨cell_old hbX f0, cell_old hbX f1, cell_old hbX f2, cell_old hbX f3, cell_old hbX f4, cell_old hbX f5, cell_old hbX g2, cell_old hbX g6, cell_old hbX g10⟩); (with_reducible repeat first | assumption | exact below_old' (by assumption) (by assumption) | refine Below.drew ?_ | refine below_new_old ?_ _)))
      clear hK K
      try simp only [List.getElem_toArray, List.getElem_cons_zero, List.getElem_cons_succ, Act.put, List.setIfInBounds_toArray, List.set_cons_zero, List.set_cons_succ, Dc1.out, Dc2.out, Dc3.out]
      first
        | (refine tk1 (i := 3) (v := ?_) rfl (Or.inl ⟨by rfl, ?_⟩) (by assumption) ?_
           rotate_left
           · (intro w hSw; (try dsimp only at hSw); go_simp; try with_reducible rfl))
        | refine tk1 (i := 3) (v := undef) rfl (Or.inr ⟨by rfl, rfl⟩) (by assumption) ?_
      try simp only [List.getElem_toArray, List.getElem_cons_zero, List.getElem_cons_succ, Act.put, List.setIfInBounds_toArray, List.set_cons_zero, List.set_cons_succ, Dc1.out, Dc2.out, Dc3.out]
      first
        | (refine tk1 (i := 4) (v := ?_) rfl (Or.inl ⟨by rfl, ?_⟩) (by assumption) ?_
           rotate_left
           · (intro w hSw; (try dsimp only at hSw); go_simp; try with_reducible rfl))
        | refine tk1 (i := 4) (v := undef) rfl (Or.inr ⟨by rfl, rfl⟩) (by assumption) ?_
      try simp only [List.getElem_toArray, List.getElem_cons_zero, List.getElem_cons_succ, Act.put, List.setIfInBounds_toArray, List.set_cons_zero, List.set_cons_succ, Dc1.out, Dc2.out, Dc3.out]
      first
        | (refine tk1 (i := 5) (v := ?_) rfl (Or.inl ⟨by rfl, ?_⟩) (by assumption) ?_
           rotate_left
           · (intro w hSw; (try dsimp only at hSw); go_simp; try with_reducible rfl))
        | refine tk1 (i := 5) (v := undef) rfl (Or.inr ⟨by rfl, rfl⟩) (by assumption) ?_
      try simp only [List.getElem_toArray, List.getElem_cons_zero, List.getElem_cons_succ, Act.put, List.setIfInBounds_toArray, List.set_cons_zero, List.set_cons_succ, Dc1.out, Dc2.out, Dc3.out]
      first
        | (refine tk1 (i := 6) (v := ?_) rfl (Or.inl ⟨by rfl, ?_⟩) (by assumption) ?_
           rotate_left
           · (intro w hSw; (try dsimp only at hSw); go_simp; try with_reducible rfl))
        | refine tk1 (i := 6) (v := undef) rfl (Or.inr ⟨by rfl, rfl⟩) (by assumption) ?_
      try simp only [List.getElem_toArray, List.getElem_cons_zero, List.getElem_cons_succ, Act.put, List.setIfInBounds_toArray, List.set_cons_zero, List.set_cons_succ, Dc1.out, Dc2.out, Dc3.out]
      first
        | (refine tk1 (i := 7) (v := ?_) rfl (Or.inl ⟨by rfl, ?_⟩) (by assumption) ?_
           rotate_left
           · (intro w hSw; (try dsimp only at hSw); go_simp; try with_reducible rfl))
        | refine tk1 (i := 7) (v := undef) rfl (Or.inr ⟨by rfl, rfl⟩) (by assumption) ?_
      try simp only [List.getElem_toArray, List.getElem_cons_zero, List.getElem_cons_succ, Act.put, List.setIfInBounds_toArray, List.set_cons_zero, List.set_cons_succ, Dc1.out, Dc2.out, Dc3.out]
      first
        | (refine tk1 (i := 8) (v := ?_) rfl (Or.inl ⟨by rfl, ?_⟩) (by assumption) ?_
           rotate_left
           · (intro w hSw; (try dsimp only at hSw); go_simp; try with_reducible rfl))
        | refine tk1 (i := 8) (v := undef) rfl (Or.inr ⟨by rfl, rfl⟩) (by assumption) ?_
      try simp only [List.getElem_toArray, List.getElem_cons_zero, List.getElem_cons_succ, Act.put, List.setIfInBounds_toArray, List.set_cons_zero, List.set_cons_succ, Dc1.out, Dc2.out, Dc3.out]
      first
        | (refine tk1 (i := 9) (v := ?_) rfl (Or.inl ⟨by rfl, ?_⟩) (by assumption) ?_
           rotate_left
           · (intro w hSw; (try dsimp only at hSw); go_simp; try with_reducible rfl))
        | refine tk1 (i := 9) (v := undef) rfl (Or.inr ⟨by rfl, rfl⟩) (by assumption) ?_
      try simp only [List.getElem_toArray, List.getElem_cons_zero, List.getElem_cons_succ, Act.put, List.setIfInBounds_toArray, List.set_cons_zero, List.set_cons_succ, Dc1.out, Dc2.out, Dc3.out]
      first
        | (refine tk1 (i := 10) (v := ?_) rfl (Or.inl ⟨by rfl, ?_⟩) (by assumption) ?_
           rotate_left
           · (intro w hSw; (try dsimp only at hSw); go_simp; try with_reducible rfl))
        | refine tk1 (i := 10) (v := undef) rfl (Or.inr ⟨by rfl, rfl⟩) (by assumption) ?_
      try simp only [List.getElem_toArray, List.getElem_cons_zero, List.getElem_cons_succ, Act.put, List.setIfInBounds_toArray, List.set_cons_zero, List.set_cons_succ, Dc1.out, Dc2.out, Dc3.out]
      first
        | (refine tk1 (i := 11) (v := ?_) rfl (Or.inl ⟨by rfl, ?_⟩) (by assumption) ?_
           rotate_left
           · (intro w hSw; (try dsimp only at hSw); go_simp; try with_reducible rfl))
        | refine tk1 (i := 11) (v := undef) rfl (Or.inr ⟨by rfl, rfl⟩) (by assumption) ?_
      try simp only [List.getElem_toArray, List.getElem_cons_zero, List.getElem_cons_succ, Act.put, List.setIfInBounds_toArray, List.set_cons_zero, List.set_cons_succ, Dc1.out, Dc2.out, Dc3.out]
      first
        | (refine tk1 (i := 12) (v := ?_) rfl (Or.inl ⟨by rfl, ?_⟩) (by assumption) ?_
           rotate_left
           · (intro w hSw; (try dsimp only at hSw); go_simp; try with_reducible rfl))
        | refine tk1 (i := 12) (v := undef) rfl (Or.inr ⟨by rfl, rfl⟩) (by assumption) ?_
      try simp only [List.getElem_toArray, List.getElem_cons_zero, List.getElem_cons_succ, Act.put, List.setIfInBounds_toArray, List.set_cons_zero, List.set_cons_succ, Dc1.out, Dc2.out, Dc3.out]
      first
        | (refine tk1 (i := 13) (v := ?_) rfl (Or.inl ⟨by rfl, ?_⟩) (by assumption) ?_
           rotate_left
           · (intro w hSw; (try dsimp only at hSw); go_simp; try with_reducible rfl))
        | refine tk1 (i := 13) (v := undef) rfl (Or.inr ⟨by rfl, rfl⟩) (by assumption) ?_
      try simp only [List.getElem_toArray, List.getElem_cons_zero, List.getElem_cons_succ, Act.put, List.setIfInBounds_toArray, List.set_cons_zero, List.set_cons_succ, Dc1.out, Dc2.out, Dc3.out]
      first
        | (refine tk1 (i := 14) (v := ?_) rfl (Or.inl ⟨by rfl, ?_⟩) (by assumption) ?_
           rotate_left
           · (intro w hSw; (try dsimp only at hSw); go_simp; try with_reducible rfl))
        | refine tk1 (i := 14) (v := undef) rfl (Or.inr ⟨by rfl, rfl⟩) (by assumption) ?_
      try simp only [List.getElem_toArray, List.getElem_cons_zero, List.getElem_cons_succ, Act.put, List.setIfInBounds_toArray, List.set_cons_zero, List.set_cons_succ, Dc1.out, Dc2.out, Dc3.out]
      first
        | (refine tk1 (i := 15) (v := ?_) rfl (Or.inl ⟨by rfl, ?_⟩) (by assumption) ?_
           rotate_left
           · (intro w hSw; (try dsimp only at hSw); go_simp; try with_reducible rfl))
        | refine tk1 (i := 15) (v := undef) rfl (Or.inr ⟨by rfl, rfl⟩) (by assumption) ?_
      try simp only [List.getElem_toArray, List.getElem_cons_zero, List.getElem_cons_succ, Act.put, List.setIfInBounds_toArray, List.set_cons_zero, List.set_cons_succ, Dc1.out, Dc2.out, Dc3.out]
      first
        | (refine tk1 (i := 16) (v := ?_) rfl (Or.inl ⟨by rfl, ?_⟩) (by assumption) ?_
           rotate_left
           · (intro w hSw; (try dsimp only at hSw); go_simp; try with_reducible rfl))
        | refine tk1 (i := 16) (v := undef) rfl (Or.inr ⟨by rfl, rfl⟩) (by assumption) ?_
      try simp only [List.getElem_toArray, List.getElem_cons_zero, List.getElem_cons_succ, Act.put, List.setIfInBounds_toArray, List.set_cons_zero, List.set_cons_succ, Dc1.out, Dc2.out, Dc3.out]
      first
        | (refine tk1 (i := 17) (v := ?_) rfl (Or.inl ⟨by rfl, ?_⟩) (by assumption) ?_
           rotate_left
           · (intro w hSw; (try dsimp only at hSw); go_simp; try with_reducible rfl))
        | refine tk1 (i := 17) (v := undef) rfl (Or.inr ⟨by rfl, rfl⟩) (by assumption) ?_
      try simp only [List.getElem_toArray, List.getElem_cons_zero, List.getElem_cons_succ, Act.put, List.setIfInBounds_toArray, List.set_cons_zero, List.set_cons_succ, Dc1.out, Dc2.out, Dc3.out]
      first
        | (refine tk1 (i := 18) (v := ?_) rfl (Or.inl ⟨by rfl, ?_⟩) (by assumption) ?_
           rotate_left
           · (intro w hSw; (try dsimp only at hSw); go_simp; try with_reducible rfl))
        | refine tk1 (i := 18) (v := undef) rfl (Or.inr ⟨by rfl, rfl⟩) (by assumption) ?_
      try simp only [List.getElem_toArray, List.getElem_cons_zero, List.getElem_cons_succ, Act.put, List.setIfInBounds_toArray, List.set_cons_zero, List.set_cons_succ, Dc1.out, Dc2.out, Dc3.out]
      first
        | (refine tk1 (i := 19) (v := ?_) rfl (Or.inl ⟨by rfl, ?_⟩) (by assumption) ?_
           rotate_left
           · (intro w hSw; (try dsimp only at hSw); go_simp; try with_reducible rfl))
        | refine tk1 (i := 19) (v := undef) rfl (Or.inr ⟨by rfl, rfl⟩) (by assumption) ?_
      try simp only [List.getElem_toArray, List.getElem_cons_zero, List.getElem_cons_succ, Act.put, List.setIfInBounds_toArray, List.set_cons_zero, List.set_cons_succ, Dc1.out, Dc2.out, Dc3.out]
      first
        | (refine tk1 (i := 20) (v := ?_) rfl (Or.inl ⟨by rfl, ?_⟩) (by assumption) ?_
           rotate_left
           · (intro w hSw; (try dsimp only at hSw); go_simp; try with_reducible rfl))
        | refine tk1 (i := 20) (v := undef) rfl (Or.inr ⟨by rfl, rfl⟩) (by assumption) ?_
      try simp only [List.getElem_toArray, List.getElem_cons_zero, List.getElem_cons_succ, Act.put, List.setIfInBounds_toArray, List.set_cons_zero, List.set_cons_succ, Dc1.out, Dc2.out, Dc3.out]
      first
        | (refine tk1 (i := 21) (v := ?_) rfl (Or.inl ⟨by rfl, ?_⟩) (by assumption) ?_
           rotate_left
           · (intro w hSw; (try dsimp only at hSw); go_simp; try with_reducible rfl))
        | refine tk1 (i := 21) (v := undef) rfl (Or.inr ⟨by rfl, rfl⟩) (by assumption) ?_
      try simp only [List.getElem_toArray, List.getElem_cons_zero, List.getElem_cons_succ, Act.put, List.setIfInBounds_toArray, List.set_cons_zero, List.set_cons_succ, Dc1.out, Dc2.out, Dc3.out]
      first
        | (refine tk1 (i := 22) (v := ?_) rfl (Or.inl ⟨by rfl, ?_⟩) (by assumption) ?_
           rotate_left
           · (intro w hSw; (try dsimp only at hSw); go_simp; try with_reducible rfl))
        | refine tk1 (i := 22) (v := undef) rfl (Or.inr ⟨by rfl, rfl⟩) (by assumption) ?_
      try simp only [List.getElem_toArray, List.getElem_cons_zero, List.getElem_cons_succ, Act.put, List.setIfInBounds_toArray, List.set_cons_zero, List.set_cons_succ, Dc1.out, Dc2.out, Dc3.out]
      first
        | (refine tk1 (i := 23) (v := ?_) rfl (Or.inl ⟨by rfl, ?_⟩) (by assumption) ?_
           rotate_left
           · (intro w hSw; (try dsimp only at hSw); go_simp; try with_reducible rfl))
        | refine tk1 (i := 23) (v := undef) rfl (Or.inr ⟨by rfl, rfl⟩) (by assumption) ?_
      try simp only [List.getElem_toArray, List.getElem_cons_zero, List.getElem_cons_succ, Act.put, List.setIfInBounds_toArray, List.set_cons_zero, List.set_cons_succ, Dc1.out, Dc2.out, Dc3.out]
      first
        | (refine tk1 (i := 24) (v := ?_) rfl (Or.inl ⟨by rfl, ?_⟩) (by assumption) ?_
           rotate_left
           · (intro w hSw; (try dsimp only at hSw); go_simp; try with_reducible rfl))
        | refine tk1 (i := 24) (v := undef) rfl (Or.inr ⟨by rfl, rfl⟩) (by assumption) ?_
      try simp only [List.getElem_toArray, List.getElem_cons_zero, List.getElem_cons_succ, Act.put, List.setIfInBounds_toArray, List.set_cons_zero, List.set_cons_succ, Dc1.out, Dc2.out, Dc3.out]
      first
        | (refine tk1 (i := 25) (v := ?_) rfl (Or.inl ⟨by rfl, ?_⟩) (by assumption) ?_
           rotate_left
           · (intro w hSw; (try dsimp only at hSw); go_simp; try with_reducible rfl))
        | refine tk1 (i := 25) (v := undef) rfl (Or.inr ⟨by rfl, rfl⟩) (by assumption) ?_
      try simp only [List.getElem_toArray, List.getElem_cons_zero, List.getElem_cons_succ, Act.put, List.setIfInBounds_toArray, List.set_cons_zero, List.set_cons_succ, Dc1.out, Dc2.out, Dc3.out]
      first
        | (refine tk1 (i := 26) (v := ?_) rfl (Or.inl ⟨by rfl, ?_⟩) (by assumption) ?_
           rotate_left
           · (intro w hSw; (try dsimp only at hSw); go_simp; try with_reducible rfl))
        | refine tk1 (i := 26) (v := undef) rfl (Or.inr ⟨by rfl, rfl⟩) (by assumption) ?_
      try simp only [List.getElem_toArray, List.getElem_cons_zero, List.getElem_cons_succ, Act.put, List.setIfInBounds_toArray, List.set_cons_zero, List.set_cons_succ, Dc1.out, Dc2.out, Dc3.out]
      first
        | (refine tk1 (i := 27) (v := ?_) rfl (Or.inl ⟨by rfl, ?_⟩) (by assumption) ?_
           rotate_left
           · (intro w hSw; (try dsimp only at hSw); go_simp; try with_reducible rfl))
        | refine tk1 (i := 27) (v := undef) rfl (Or.inr ⟨by rfl, rfl⟩) (by assumption) ?_
      try simp only [List.getElem_toArray, List.getElem_cons_zero, List.getElem_cons_succ, Act.put, List.setIfInBounds_toArray, List.set_cons_zero, List.set_cons_succ, Dc1.out, Dc2.out, Dc3.out]
      first
        | (refine tk1 (i := 28) (v := ?_) rfl (Or.inl ⟨by rfl, ?_⟩) (by assumption) ?_
           rotate_left
           · (intro w hSw; (try dsimp only at hSw); go_simp; try with_reducible rfl))
        | refine tk1 (i := 28) (v := undef) rfl (Or.inr ⟨by rfl, rfl⟩) (by assumption) ?_
      try simp only [List.getElem_toArray, List.getElem_cons_zero, List.getElem_cons_succ, Act.put, List.setIfInBounds_toArray, List.set_cons_zero, List.set_cons_succ, Dc1.out, Dc2.out, Dc3.out]
      first
        | (refine tk1 (i := 29) (v := ?_) rfl (Or.inl ⟨by rfl, ?_⟩) (by assumption) ?_
           rotate_left
           · (intro w hSw; (try dsimp only at hSw); go_simp; try with_reducible rfl))
        | refine tk1 (i := 29) (v := undef) rfl (Or.inr ⟨by rfl, rfl⟩) (by assumption) ?_
      try simp only [List.getElem_toArray, List.getElem_cons_zero, List.getElem_cons_succ, Act.put, List.setIfInBounds_toArray, List.set_cons_zero, List.set_cons_succ, Dc1.out, Dc2.out, Dc3.out]
      first
        | (refine tk1 (i := 30) (v := ?_) rfl (Or.inl ⟨by rfl, ?_⟩) (by assumption) ?_
           rotate_left
           · (intro w hSw; (try dsimp only at hSw); go_simp; try with_reducible rfl))
        | refine tk1 (i := 30) (v := undef) rfl (Or.inr ⟨by rfl, rfl⟩) (by assumption) ?_
      try simp only [List.getElem_toArray, List.getElem_cons_zero, List.getElem_cons_succ, Act.put, List.setIfInBounds_toArray, List.set_cons_zero, List.set_cons_succ, Dc1.out, Dc2.out, Dc3.out]
      first
        | (refine tk1 (i := 31) (v := ?_) rfl (Or.inl ⟨by rfl, ?_⟩) (by assumption) ?_
           rotate_left
           · (intro w hSw; (try dsimp only at hSw); go_simp; try with_reducible rfl))
        | refine tk1 (i := 31) (v := undef) rfl (Or.inr ⟨by rfl, rfl⟩) (by assumption) ?_
      try simp only [List.getElem_toArray, List.getElem_cons_zero, List.getElem_cons_succ, Act.put, List.setIfInBounds_toArray, List.set_cons_zero, List.set_cons_succ, Dc1.out, Dc2.out, Dc3.out]
      first
        | (refine tk1 (i := 32) (v := ?_) rfl (Or.inl ⟨by rfl, ?_⟩) (by assumption) ?_
           rotate_left
           · (intro w hSw; (try dsimp only at hSw); go_simp; try with_reducible rfl))
        | refine tk1 (i := 32) (v := undef) rfl (Or.inr ⟨by rfl, rfl⟩) (by assumption) ?_
      try simp only [List.getElem_toArray, List.getElem_cons_zero, List.getElem_cons_succ, Act.put, List.setIfInBounds_toArray, List.set_cons_zero, List.set_cons_succ, Dc1.out, Dc2.out, Dc3.out]
      first
        | (refine tk1 (i := 33) (v := ?_) rfl (Or.inl ⟨by rfl, ?_⟩) (by assumption) ?_
           rotate_left
           · (intro w hSw; (try dsimp only at hSw); go_simp; try with_reducible rfl))
        | refine tk1 (i := 33) (v := undef) rfl (Or.inr ⟨by rfl, rfl⟩) (by assumption) ?_
      try simp only [List.getElem_toArray, List.getElem_cons_zero, List.getElem_cons_succ, Act.put, List.setIfInBounds_toArray, List.set_cons_zero, List.set_cons_succ, Dc1.out, Dc2.out, Dc3.out]
      first
        | (refine tk1 (i := 34) (v := ?_) rfl (Or.inl ⟨by rfl, ?_⟩) (by assumption) ?_
           rotate_left
           · (intro w hSw; (try dsimp only at hSw); go_simp; try with_reducible rfl))
        | refine tk1 (i := 34) (v := undef) rfl (Or.inr ⟨by rfl, rfl⟩) (by assumption) ?_
      try simp only [List.getElem_toArray, List.getElem_cons_zero, List.getElem_cons_succ, Act.put, List.setIfInBounds_toArray, List.set_cons_zero, List.set_cons_succ, Dc1.out, Dc2.out, Dc3.out]
      first
        | (refine tk1 (i := 35) (v := ?_) rfl (Or.inl ⟨by rfl, ?_⟩) (by assumption) ?_
           rotate_left
           · (intro w hSw; (try dsimp only at hSw); go_simp; try with_reducible rfl))
        | refine tk1 (i := 35) (v := undef) rfl (Or.inr ⟨by rfl, rfl⟩) (by assumption) ?_
      try simp only [List.getElem_toArray, List.getElem_cons_zero, List.getElem_cons_succ, Act.put, List.setIfInBounds_toArray, List.set_cons_zero, List.set_cons_succ, Dc1.out, Dc2.out, Dc3.out]
      first
        | (refine tk1 (i := 36) (v := ?_) rfl (Or.inl ⟨by rfl, ?_⟩) (by assumption) ?_
           rotate_left
           · (intro w hSw; (try dsimp only at hSw); go_simp; try with_reducible rfl))
        | refine tk1 (i := 36) (v := undef) rfl (Or.inr ⟨by rfl, rfl⟩) (by assumption) ?_
      try simp only [List.getElem_toArray, List.getElem_cons_zero, List.getElem_cons_succ, Act.put, List.setIfInBounds_toArray, List.set_cons_zero, List.set_cons_succ, Dc1.out, Dc2.out, Dc3.out]
      first
        | (refine tk1 (i := 37) (v := ?_) rfl (Or.inl ⟨by rfl, ?_⟩) (by assumption) ?_
           rotate_left
           · (intro w hSw; (try dsimp only at hSw); go_simp; try with_reducible rfl))
        | refine tk1 (i := 37) (v := undef) rfl (Or.inr ⟨by rfl, rfl⟩) (by assumption) ?_
      try simp only [List.getElem_toArray, List.getElem_cons_zero, List.getElem_cons_succ, Act.put, List.setIfInBounds_toArray, List.set_cons_zero, List.set_cons_succ, Dc1.out, Dc2.out, Dc3.out]
      first
        | (refine tk1 (i := 38) (v := ?_) rfl (Or.inl ⟨by rfl, ?_⟩) (by assumption) ?_
           rotate_left
           · (intro w hSw; (try dsimp only at hSw); go_simp; try with_reducible rfl))
        | refine tk1 (i := 38) (v := undef) rfl (Or.inr ⟨by rfl, rfl⟩) (by assumption) ?_
      try simp only [List.getElem_toArray, List.getElem_cons_zero, List.getElem_cons_succ, Act.put, List.setIfInBounds_toArray, List.set_cons_zero, List.set_cons_succ, Dc1.out, Dc2.out, Dc3.out]
      refine wpAnyH_done (by kernel_rfl) ?_ _
      all_goals
        have UZ := Lib.hid (U1.out.later hbw)
        go_wp2_with fail
        go_ret
        exact ⟨by first | rfl | simp, UZ.out⟩
    have c3' : sq0 ≤ hi := by omega
    have hdc3 : decide (hi < sq0) = false := by rw [decide_eq_false_iff_not]; omega
    have Dc3 := Lib.hid hdc3
    clear c3 hdc3
    by_cases hk0 : k = 0
    · have HK0 := Lib.hid hk0
      have hd1 : decide ((0 : Int) < (k : Int)) = false := by rw [decide_eq_false_iff_not]; omega
      have HD1 := Lib.hid hd1
      have hd1n : decide (0 < k) = false := by rw [decide_eq_false_iff_not]; omega
      have HD1N := Lib.hid hd1n
      clear hd1 hd1n
      have hd3 : (k : Int) ≤ 0 := by omega
      clear hk0
      go_wp2_with fail
      rw [← HWX.out]
      refine wp_region_held_drew (S := fun w' => Below wx.heap.size wx w' ∧ w'.cell? ⟨wo.heap.size, 0, none⟩ = some (.int .i64 at0) ∧ w'.cell? ⟨wo.heap.size, 1, none⟩ = some (.int .i64 sq0) ∧ w'.cell? ⟨wo.heap.size, 2, none⟩ = some (.int .i64 ti0) ∧ w'.cell? ⟨wo.heap.size, 3, none⟩ = some (.bool mk0) ∧ w'.cell? ⟨wo.heap.size, 4, none⟩ = some (.int .u8 ty0) ∧ w'.cell? ⟨wo.heap.size, 5, none⟩ = some (.slice B0 pl0.length c0) ∧ w'.cell? ⟨w.heap.size, 2, none⟩ = some (.int .i64 nw) ∧ w'.cell? ⟨w.heap.size, 6, none⟩ = some (.int .i64 hi) ∧ w'.cell? ⟨w.heap.size, 10, none⟩ = some (.slice (some ⟨b, off, none⟩) l.length qc)) (by kernel_rfl) ?_ (fun hHeld => ?_)
      · (first | assumption | ((try go_split_ands); refine and_dep ?_ (fun hbX => ⟨cell_old hbX f0, cell_old hbX f1, cell_old hbX f2, cell_old hbX f3, cell_old hbX f4, cell_old hbX f5, cell_old hbX g2, cell_old hbX g6, cell_old hbX g10⟩); (with_reducible repeat first | assumption | exact below_old' (by assumption) (by assumption) | refine Below.drew ?_ | refine below_new_old ?_ _)))
      first
        | (refine tk1 (i := 0) (v := ?_) rfl (Or.inl ⟨by rfl, ?_⟩) (by assumption) ?_
           rotate_left
           · (intro w hSw; (try dsimp only at hSw); go_simp; try with_reducible rfl))
        | refine tk1 (i := 0) (v := undef) rfl (Or.inr ⟨by rfl, rfl⟩) (by assumption) ?_
      try simp only [List.getElem_toArray, List.getElem_cons_zero, List.getElem_cons_succ, Act.put, List.setIfInBounds_toArray, List.set_cons_zero, List.set_cons_succ, Dc1.out, Dc2.out, Dc3.out, HD1.out, HD1N.out]
      first
        | (refine tk1 (i := 1) (v := ?_) rfl (Or.inl ⟨by rfl, ?_⟩) (by assumption) ?_
           rotate_left
           · (intro w hSw; (try dsimp only at hSw); go_simp; try with_reducible rfl))
        | refine tk1 (i := 1) (v := undef) rfl (Or.inr ⟨by rfl, rfl⟩) (by assumption) ?_
      try simp only [List.getElem_toArray, List.getElem_cons_zero, List.getElem_cons_succ, Act.put, List.setIfInBounds_toArray, List.set_cons_zero, List.set_cons_succ, Dc1.out, Dc2.out, Dc3.out, HD1.out, HD1N.out]
      refine wpAnyH_ready (rs := [2]) (by kernel_rfl) (by simp) ?_
      refine AllReadyH.cons (o := _) rfl (fun K hK => ?_) ?_
      rotate_left
      · exact AllReadyH.nil
      go_simp
      (go_at_call 25; refine (k1.out _).mono ?_; rintro e w' ⟨rfl, hbel⟩; have hbw : Below wx.heap.size wx w' := below_old' hbel (by (try go_split_ands); assumption); obtain ⟨hcc, hff⟩ := bcell hbel)
      refine hK.out _ _ ?_ (fun hHeld => ?_)
      · (try dsimp only)
        (first | assumption | ((try go_split_ands); refine and_dep ?_ (fun hbX => ⟨cell_old hbX f0, cell_old hbX f1, cell_old hbX f2, cell_old hbX f3, cell_old hbX f4, cell_old hbX f5, cell_old hbX g2, cell_old hbX g6, cell_old hbX g10⟩); (with_reducible repeat first | assumption | exact below_old' (by assumption) (by assumption) | refine Below.drew ?_ | refine below_new_old ?_ _)))
      clear hK K
      try simp only [List.getElem_toArray, List.getElem_cons_zero, List.getElem_cons_succ, Act.put, List.setIfInBounds_toArray, List.set_cons_zero, List.set_cons_succ, Dc1.out, Dc2.out, Dc3.out, HD1.out, HD1N.out]
      first
        | (refine tk1 (i := 3) (v := ?_) rfl (Or.inl ⟨by rfl, ?_⟩) (by assumption) ?_
           rotate_left
           · (intro w hSw; (try dsimp only at hSw); go_simp; try with_reducible rfl))
        | refine tk1 (i := 3) (v := undef) rfl (Or.inr ⟨by rfl, rfl⟩) (by assumption) ?_
      try simp only [List.getElem_toArray, List.getElem_cons_zero, List.getElem_cons_succ, Act.put, List.setIfInBounds_toArray, List.set_cons_zero, List.set_cons_succ, Dc1.out, Dc2.out, Dc3.out, HD1.out, HD1N.out]
      first
        | (refine tk1 (i := 4) (v := ?_) rfl (Or.inl ⟨by rfl, ?_⟩) (by assumption) ?_
           rotate_left
           · (intro w hSw; (try dsimp only at hSw); go_simp; try with_reducible rfl))
        | refine tk1 (i := 4) (v := undef) rfl (Or.inr ⟨by rfl, rfl⟩) (by assumption) ?_
      try simp only [List.getElem_toArray, List.getElem_cons_zero, List.getElem_cons_succ, Act.put, List.setIfInBounds_toArray, List.set_cons_zero, List.set_cons_succ, Dc1.out, Dc2.out, Dc3.out, HD1.out, HD1N.out]
      first
        | (refine tk1 (i := 5) (v := ?_) rfl (Or.inl ⟨by rfl, ?_⟩) (by assumption) ?_
           rotate_left
           · (intro w hSw; (try dsimp only at hSw); go_simp; try with_reducible rfl))
        | refine tk1 (i := 5) (v := undef) rfl (Or.inr ⟨by rfl, rfl⟩) (by assumption) ?_
      try simp only [List.getElem_toArray, List.getElem_cons_zero, List.getElem_cons_succ, Act.put, List.setIfInBounds_toArray, List.set_cons_zero, List.set_cons_succ, Dc1.out, Dc2.out, Dc3.out, HD1.out, HD1N.out]
      first
        | (refine tk1 (i := 6) (v := ?_) rfl (Or.inl ⟨by rfl, ?_⟩) (by assumption) ?_
           rotate_left
           · (intro w hSw; (try dsimp only at hSw); go_simp; try with_reducible rfl))
        | refine tk1 (i := 6) (v := undef) rfl (Or.inr ⟨by rfl, rfl⟩) (by assumption) ?_
      try simp only [List.getElem_toArray, List.getElem_cons_zero, List.getElem_cons_succ, Act.put, List.setIfInBounds_toArray, List.set_cons_zero, List.set_cons_succ, Dc1.out, Dc2.out, Dc3.out, HD1.out, HD1N.out]
      first
        | (refine tk1 (i := 7) (v := ?_) rfl (Or.inl ⟨by rfl, ?_⟩) (by assumption) ?_
           rotate_left
           · (intro w hSw; (try dsimp only at hSw); go_simp; try with_reducible rfl))
        | refine tk1 (i := 7) (v := undef) rfl (Or.inr ⟨by rfl, rfl⟩) (by assumption) ?_
      try simp only [List.getElem_toArray, List.getElem_cons_zero, List.getElem_cons_succ, Act.put, List.setIfInBounds_toArray, List.set_cons_zero, List.set_cons_succ, Dc1.out, Dc2.out, Dc3.out, HD1.out, HD1N.out]
      first
        | (refine tk1 (i := 8) (v := ?_) rfl (Or.inl ⟨by rfl, ?_⟩) (by assumption) ?_
           rotate_left
           · (intro w hSw; (try dsimp only at hSw); go_simp; try with_reducible rfl))
        | refine tk1 (i := 8) (v := undef) rfl (Or.inr ⟨by rfl, rfl⟩) (by assumption) ?_
      try simp only [List.getElem_toArray, List.getElem_cons_zero, List.getElem_cons_succ, Act.put, List.setIfInBounds_toArray, List.set_cons_zero, List.set_cons_succ, Dc1.out, Dc2.out, Dc3.out, HD1.out, HD1N.out]
      first
        | (refine tk1 (i := 9) (v := ?_) rfl (Or.inl ⟨by rfl, ?_⟩) (by assumption) ?_
           rotate_left
           · (intro w hSw; (try dsimp only at hSw); go_simp; try with_reducible rfl))
        | refine tk1 (i := 9) (v := undef) rfl (Or.inr ⟨by rfl, rfl⟩) (by assumption) ?_
      try simp only [List.getElem_toArray, List.getElem_cons_zero, List.getElem_cons_succ, Act.put, List.setIfInBounds_toArray, List.set_cons_zero, List.set_cons_succ, Dc1.out, Dc2.out, Dc3.out, HD1.out, HD1N.out]
      first
        | (refine tk1 (i := 10) (v := ?_) rfl (Or.inl ⟨by rfl, ?_⟩) (by assumption) ?_
           rotate_left
           · (intro w hSw; (try dsimp only at hSw); go_simp; try with_reducible rfl))
        | refine tk1 (i := 10) (v := undef) rfl (Or.inr ⟨by rfl, rfl⟩) (by assumption) ?_
      try simp only [List.getElem_toArray, List.getElem_cons_zero, List.getElem_cons_succ, Act.put, List.setIfInBounds_toArray, List.set_cons_zero, List.set_cons_succ, Dc1.out, Dc2.out, Dc3.out, HD1.out, HD1N.out]
      first
        | (refine tk1 (i := 11) (v := ?_) rfl (Or.inl ⟨by rfl, ?_⟩) (by assumption) ?_
           rotate_left
           · (intro w hSw; (try dsimp only at hSw); go_simp; try with_reducible rfl))
        | refine tk1 (i := 11) (v := undef) rfl (Or.inr ⟨by rfl, rfl⟩) (by assumption) ?_
      try simp only [List.getElem_toArray, List.getElem_cons_zero, List.getElem_cons_succ, Act.put, List.setIfInBounds_toArray, List.set_cons_zero, List.set_cons_succ, Dc1.out, Dc2.out, Dc3.out, HD1.out, HD1N.out]
      first
        | (refine tk1 (i := 12) (v := ?_) rfl (Or.inl ⟨by rfl, ?_⟩) (by assumption) ?_
           rotate_left
           · (intro w hSw; (try dsimp only at hSw); go_simp; try with_reducible rfl))
        | refine tk1 (i := 12) (v := undef) rfl (Or.inr ⟨by rfl, rfl⟩) (by assumption) ?_
      try simp only [List.getElem_toArray, List.getElem_cons_zero, List.getElem_cons_succ, Act.put, List.setIfInBounds_toArray, List.set_cons_zero, List.set_cons_succ, Dc1.out, Dc2.out, Dc3.out, HD1.out, HD1N.out]
      first
        | (refine tk1 (i := 13) (v := ?_) rfl (Or.inl ⟨by rfl, ?_⟩) (by assumption) ?_
           rotate_left
           · (intro w hSw; (try dsimp only at hSw); go_simp; try with_reducible rfl))
        | refine tk1 (i := 13) (v := undef) rfl (Or.inr ⟨by rfl, rfl⟩) (by assumption) ?_
      try simp only [List.getElem_toArray, List.getElem_cons_zero, List.getElem_cons_succ, Act.put, List.setIfInBounds_toArray, List.set_cons_zero, List.set_cons_succ, Dc1.out, Dc2.out, Dc3.out, HD1.out, HD1N.out]
      first
        | (refine tk1 (i := 14) (v := ?_) rfl (Or.inl ⟨by rfl, ?_⟩) (by assumption) ?_
           rotate_left
           · (intro w hSw; (try dsimp only at hSw); go_simp; try with_reducible rfl))
        | refine tk1 (i := 14) (v := undef) rfl (Or.inr ⟨by rfl, rfl⟩) (by assumption) ?_
      try simp only [List.getElem_toArray, List.getElem_cons_zero, List.getElem_cons_succ, Act.put, List.setIfInBounds_toArray, List.set_cons_zero, List.set_cons_succ, Dc1.out, Dc2.out, Dc3.out, HD1.out, HD1N.out]
      first
        | (refine tk1 (i := 15) (v := ?_) rfl (Or.inl ⟨by rfl, ?_⟩) (by assumption) ?_
           rotate_left
           · (intro w hSw; (try dsimp only at hSw); go_simp; try with_reducible rfl))
        | refine tk1 (i := 15) (v := undef) rfl (Or.inr ⟨by rfl, rfl⟩) (by assumption) ?_
      try simp only [List.getElem_toArray, List.getElem_cons_zero, List.getElem_cons_succ, Act.put, List.setIfInBounds_toArray, List.set_cons_zero, List.set_cons_succ, Dc1.out, Dc2.out, Dc3.out, HD1.out, HD1N.out]
      first
        | (refine tk1 (i := 16) (v := ?_) rfl (Or.inl ⟨by rfl, ?_⟩) (by assumption) ?_
           rotate_left
           · (intro w hSw; (try dsimp only at hSw); go_simp; try with_reducible rfl))
        | refine tk1 (i := 16) (v := undef) rfl (Or.inr ⟨by rfl, rfl⟩) (by assumption) ?_
      try simp only [List.getElem_toArray, List.getElem_cons_zero, List.getElem_cons_succ, Act.put, List.setIfInBounds_toArray, List.set_cons_zero, List.set_cons_succ, Dc1.out, Dc2.out, Dc3.out, HD1.out, HD1N.out]
      first
        | (refine tk1 (i := 17) (v := ?_) rfl (Or.inl ⟨by rfl, ?_⟩) (by assumption) ?_
           rotate_left
           · (intro w hSw; (try dsimp only at hSw); go_simp; try with_reducible rfl))
        | refine tk1 (i := 17) (v := undef) rfl (Or.inr ⟨by rfl, rfl⟩) (by assumption) ?_
      try simp only [List.getElem_toArray, List.getElem_cons_zero, List.getElem_cons_succ, Act.put, List.setIfInBounds_toArray, List.set_cons_zero, List.set_cons_succ, Dc1.out, Dc2.out, Dc3.out, HD1.out, HD1N.out]
      first
        | (refine tk1 (i := 18) (v := ?_) rfl (Or.inl ⟨by rfl, ?_⟩) (by assumption) ?_
           rotate_left
           · (intro w hSw; (try dsimp only at hSw); go_simp; try with_reducible rfl))
        | refine tk1 (i := 18) (v := undef) rfl (Or.inr ⟨by rfl, rfl⟩) (by assumption) ?_
      try simp only [List.getElem_toArray, List.getElem_cons_zero, List.getElem_cons_succ, Act.put, List.setIfInBounds_toArray, List.set_cons_zero, List.set_cons_succ, Dc1.out, Dc2.out, Dc3.out, HD1.out, HD1N.out]
      first
        | (refine tk1 (i := 19) (v := ?_) rfl (Or.inl ⟨by rfl, ?_⟩) (by assumption) ?_
           rotate_left
           · (intro w hSw; (try dsimp only at hSw); go_simp; try with_reducible rfl))
        | refine tk1 (i := 19) (v := undef) rfl (Or.inr ⟨by rfl, rfl⟩) (by assumption) ?_
      try simp only [List.getElem_toArray, List.getElem_cons_zero, List.getElem_cons_succ, Act.put, List.setIfInBounds_toArray, List.set_cons_zero, List.set_cons_succ, Dc1.out, Dc2.out, Dc3.out, HD1.out, HD1N.out]
      first
        | (refine tk1 (i := 20) (v := ?_) rfl (Or.inl ⟨by rfl, ?_⟩) (by assumption) ?_
           rotate_left
           · (intro w hSw; (try dsimp only at hSw); go_simp; try with_reducible rfl))
        | refine tk1 (i := 20) (v := undef) rfl (Or.inr ⟨by rfl, rfl⟩) (by assumption) ?_
      try simp only [List.getElem_toArray, List.getElem_cons_zero, List.getElem_cons_succ, Act.put, List.setIfInBounds_toArray, List.set_cons_zero, List.set_cons_succ, Dc1.out, Dc2.out, Dc3.out, HD1.out, HD1N.out]
      first
        | (refine tk1 (i := 21) (v := ?_) rfl (Or.inl ⟨by rfl, ?_⟩) (by assumption) ?_
           rotate_left
           · (intro w hSw; (try dsimp only at hSw); go_simp; try with_reducible rfl))
        | refine tk1 (i := 21) (v := undef) rfl (Or.inr ⟨by rfl, rfl⟩) (by assumption) ?_
      try simp only [List.getElem_toArray, List.getElem_cons_zero, List.getElem_cons_succ, Act.put, List.setIfInBounds_toArray, List.set_cons_zero, List.set_cons_succ, Dc1.out, Dc2.out, Dc3.out, HD1.out, HD1N.out]
      first
        | (refine tk1 (i := 22) (v := ?_) rfl (Or.inl ⟨by rfl, ?_⟩) (by assumption) ?_
           rotate_left
           · (intro w hSw; (try dsimp only at hSw); go_simp; try with_reducible rfl))
        | refine tk1 (i := 22) (v := undef) rfl (Or.inr ⟨by rfl, rfl⟩) (by assumption) ?_
      try simp only [List.getElem_toArray, List.getElem_cons_zero, List.getElem_cons_succ, Act.put, List.setIfInBounds_toArray, List.set_cons_zero, List.set_cons_succ, Dc1.out, Dc2.out, Dc3.out, HD1.out, HD1N.out]
      first
        | (refine tk1 (i := 23) (v := ?_) rfl (Or.inl ⟨by rfl, ?_⟩) (by assumption) ?_
           rotate_left
           · (intro w hSw; (try dsimp only at hSw); go_simp; try with_reducible rfl))
        | refine tk1 (i := 23) (v := undef) rfl (Or.inr ⟨by rfl, rfl⟩) (by assumption) ?_
      try simp only [List.getElem_toArray, List.getElem_cons_zero, List.getElem_cons_succ, Act.put, List.setIfInBounds_toArray, List.set_cons_zero, List.set_cons_succ, Dc1.out, Dc2.out, Dc3.out, HD1.out, HD1N.out]
      first
        | (refine tk1 (i := 24) (v := ?_) rfl (Or.inl ⟨by rfl, ?_⟩) (by assumption) ?_
           rotate_left
           · (intro w hSw; (try dsimp only at hSw); go_simp; try with_reducible rfl))
        | refine tk1 (i := 24) (v := undef) rfl (Or.inr ⟨by rfl, rfl⟩) (by assumption) ?_
      try simp only [List.getElem_toArray, List.getElem_cons_zero, List.getElem_cons_succ, Act.put, List.setIfInBounds_toArray, List.set_cons_zero, List.set_cons_succ, Dc1.out, Dc2.out, Dc3.out, HD1.out, HD1N.out]
      first
        | (refine tk1 (i := 25) (v := ?_) rfl (Or.inl ⟨by rfl, ?_⟩) (by assumption) ?_
           rotate_left
           · (intro w hSw; (try dsimp only at hSw); go_simp; try with_reducible rfl))
        | refine tk1 (i := 25) (v := undef) rfl (Or.inr ⟨by rfl, rfl⟩) (by assumption) ?_
      try simp only [List.getElem_toArray, List.getElem_cons_zero, List.getElem_cons_succ, Act.put, List.setIfInBounds_toArray, List.set_cons_zero, List.set_cons_succ, Dc1.out, Dc2.out, Dc3.out, HD1.out, HD1N.out]
      first
        | (refine tk1 (i := 26) (v := ?_) rfl (Or.inl ⟨by rfl, ?_⟩) (by assumption) ?_
           rotate_left
           · (intro w hSw; (try dsimp only at hSw); go_simp; try with_reducible rfl))
        | refine tk1 (i := 26) (v := undef) rfl (Or.inr ⟨by rfl, rfl⟩) (by assumption) ?_
      try simp only [List.getElem_toArray, List.getElem_cons_zero, List.getElem_cons_succ, Act.put, List.setIfInBounds_toArray, List.set_cons_zero, List.set_cons_succ, Dc1.out, Dc2.out, Dc3.out, HD1.out, HD1N.out]
      first
        | (refine tk1 (i := 27) (v := ?_) rfl (Or.inl ⟨by rfl, ?_⟩) (by assumption) ?_
           rotate_left
           · (intro w hSw; (try dsimp only at hSw); go_simp; try with_reducible rfl))
        | refine tk1 (i := 27) (v := undef) rfl (Or.inr ⟨by rfl, rfl⟩) (by assumption) ?_
      try simp only [List.getElem_toArray, List.getElem_cons_zero, List.getElem_cons_succ, Act.put, List.setIfInBounds_toArray, List.set_cons_zero, List.set_cons_succ, Dc1.out, Dc2.out, Dc3.out, HD1.out, HD1N.out]
      first
        | (refine tk1 (i := 28) (v := ?_) rfl (Or.inl ⟨by rfl, ?_⟩) (by assumption) ?_
           rotate_left
           · (intro w hSw; (try dsimp only at hSw); go_simp; try with_reducible rfl))
        | refine tk1 (i := 28) (v := undef) rfl (Or.inr ⟨by rfl, rfl⟩) (by assumption) ?_
      try simp only [List.getElem_toArray, List.getElem_cons_zero, List.getElem_cons_succ, Act.put, List.setIfInBounds_toArray, List.set_cons_zero, List.set_cons_succ, Dc1.out, Dc2.out, Dc3.out, HD1.out, HD1N.out]
      first
        | (refine tk1 (i := 29) (v := ?_) rfl (Or.inl ⟨by rfl, ?_⟩) (by assumption) ?_
           rotate_left
           · (intro w hSw; (try dsimp only at hSw); go_simp; try with_reducible rfl))
        | refine tk1 (i := 29) (v := undef) rfl (Or.inr ⟨by rfl, rfl⟩) (by assumption) ?_
      try simp only [List.getElem_toArray, List.getElem_cons_zero, List.getElem_cons_succ, Act.put, List.setIfInBounds_toArray, List.set_cons_zero, List.set_cons_succ, Dc1.out, Dc2.out, Dc3.out, HD1.out, HD1N.out]
      first
        | (refine tk1 (i := 30) (v := ?_) rfl (Or.inl ⟨by rfl, ?_⟩) (by assumption) ?_
           rotate_left
           · (intro w hSw; (try dsimp only at hSw); go_simp; try with_reducible rfl))
        | refine tk1 (i := 30) (v := undef) rfl (Or.inr ⟨by rfl, rfl⟩) (by assumption) ?_
      try simp only [List.getElem_toArray, List.getElem_cons_zero, List.getElem_cons_succ, Act.put, List.setIfInBounds_toArray, List.set_cons_zero, List.set_cons_succ, Dc1.out, Dc2.out, Dc3.out, HD1.out, HD1N.out]
      first
        | (refine tk1 (i := 31) (v := ?_) rfl (Or.inl ⟨by rfl, ?_⟩) (by assumption) ?_
           rotate_left
           · (intro w hSw; (try dsimp only at hSw); go_simp; try with_reducible rfl))
        | refine tk1 (i := 31) (v := undef) rfl (Or.inr ⟨by rfl, rfl⟩) (by assumption) ?_
      try simp only [List.getElem_toArray, List.getElem_cons_zero, List.getElem_cons_succ, Act.put, List.setIfInBounds_toArray, List.set_cons_zero, List.set_cons_succ, Dc1.out, Dc2.out, Dc3.out, HD1.out, HD1N.out]
      first
        | (refine tk1 (i := 32) (v := ?_) rfl (Or.inl ⟨by rfl, ?_⟩) (by assumption) ?_
           rotate_left
           · (intro w hSw; (try dsimp only at hSw); go_simp; try with_reducible rfl))
        | refine tk1 (i := 32) (v := undef) rfl (Or.inr ⟨by rfl, rfl⟩) (by assumption) ?_
      try simp only [List.getElem_toArray, List.getElem_cons_zero, List.getElem_cons_succ, Act.put, List.setIfInBounds_toArray, List.set_cons_zero, List.set_cons_succ, Dc1.out, Dc2.out, Dc3.out, HD1.out, HD1N.out]
      first
        | (refine tk1 (i := 33) (v := ?_) rfl (Or.inl ⟨by rfl, ?_⟩) (by assumption) ?_
           rotate_left
           · (intro w hSw; (try dsimp only at hSw); go_simp; try with_reducible rfl))
        | refine tk1 (i := 33) (v := undef) rfl (Or.inr ⟨by rfl, rfl⟩) (by assumption) ?_
      try simp only [List.getElem_toArray, List.getElem_cons_zero, List.getElem_cons_succ, Act.put, List.setIfInBounds_toArray, List.set_cons_zero, List.set_cons_succ, Dc1.out, Dc2.out, Dc3.out, HD1.out, HD1N.out]
      first
        | (refine tk1 (i := 34) (v := ?_) rfl (Or.inl ⟨by rfl, ?_⟩) (by assumption) ?_
           rotate_left
           · (intro w hSw; (try dsimp only at hSw); go_simp; try with_reducible rfl))
        | refine tk1 (i := 34) (v := undef) rfl (Or.inr ⟨by rfl, rfl⟩) (by assumption) ?_
      try simp only [List.getElem_toArray, List.getElem_cons_zero, List.getElem_cons_succ, Act.put, List.setIfInBounds_toArray, List.set_cons_zero, List.set_cons_succ, Dc1.out, Dc2.out, Dc3.out, HD1.out, HD1N.out]
      first
        | (refine tk1 (i := 35) (v := ?_) rfl (Or.inl ⟨by rfl, ?_⟩) (by assumption) ?_
           rotate_left
           · (intro w hSw; (try dsimp only at hSw); go_simp; try with_reducible rfl))
        | refine tk1 (i := 35) (v := undef) rfl (Or.inr ⟨by rfl, rfl⟩) (by assumption) ?_
      try simp only [List.getElem_toArray, List.getElem_cons_zero, List.getElem_cons_succ, Act.put, List.setIfInBounds_toArray, List.set_cons_zero, List.set_cons_succ, Dc1.out, Dc2.out, Dc3.out, HD1.out, HD1N.out]
      first
        | (refine tk1 (i := 36) (v := ?_) rfl (Or.inl ⟨by rfl, ?_⟩) (by assumption) ?_
           rotate_left
           · (intro w hSw; (try dsimp only at hSw); go_simp; try with_reducible rfl))
        | refine tk1 (i := 36) (v := undef) rfl (Or.inr ⟨by rfl, rfl⟩) (by assumption) ?_
      try simp only [List.getElem_toArray, List.getElem_cons_zero, List.getElem_cons_succ, Act.put, List.setIfInBounds_toArray, List.set_cons_zero, List.set_cons_succ, Dc1.out, Dc2.out, Dc3.out, HD1.out, HD1N.out]
      first
        | (refine tk1 (i := 37) (v := ?_) rfl (Or.inl ⟨by rfl, ?_⟩) (by assumption) ?_
           rotate_left
           · (intro w hSw; (try dsimp only at hSw); go_simp; try with_reducible rfl))
        | refine tk1 (i := 37) (v := undef) rfl (Or.inr ⟨by rfl, rfl⟩) (by assumption) ?_
      try simp only [List.getElem_toArray, List.getElem_cons_zero, List.getElem_cons_succ, Act.put, List.setIfInBounds_toArray, List.set_cons_zero, List.set_cons_succ, Dc1.out, Dc2.out, Dc3.out, HD1.out, HD1N.out]
      first
        | (refine tk1 (i := 38) (v := ?_) rfl (Or.inl ⟨by rfl, ?_⟩) (by assumption) ?_
           rotate_left
           · (intro w hSw; (try dsimp only at hSw); go_simp; try with_reducible rfl))
        | refine tk1 (i := 38) (v := undef) rfl (Or.inr ⟨by rfl, rfl⟩) (by assumption) ?_
      try simp only [List.getElem_toArray, List.getElem_cons_zero, List.getElem_cons_succ, Act.put, List.setIfInBounds_toArray, List.set_cons_zero, List.set_cons_succ, Dc1.out, Dc2.out, Dc3.out, HD1.out, HD1N.out]
      refine wpAnyH_done (by kernel_rfl) ?_ _
      all_goals
        have HBF : Hid (0 < k → Jb.bef ((l.map TW.w).getD (k - 1) Jb.Wt.zero) ⟨at0, ⟨sq0, ti0, mk0, ty0, pl0⟩⟩) := Lib.hid (fun h => by have h8 := HK0.out; omega)
        obtain ⟨g0, hg0⟩ : ∃ g0, g0 = gk := ⟨_, rfl⟩
        subst hg0
        have BXZ := Lib.hid (BX.out.later hbw)
        have BSZ := Lib.hid (BS1.out.later hbw)
        have UZ := Lib.hid (U1.out.later hbw)
        clear hcc hff hbw hbel f0 f1 f2 f3 f4 f5 g2 g6 g10 hU
        go_wp2_with fail
        go_loopg [5] k (fun gj j wr => ∃ y : Nat, gj + y = k ∧ j = .int .i64 y ∧ Hid (∀ i, i < y → ((l.map TW.w).getD i Jb.Wt.zero).m.sq ≠ sq0) ∧ Hid (Blk wr w.heap.size 26 #[.int .i64 le, .int .i64 mo, .int .i64 nw, .bool on, .int .i64 ze, .int .i64 fi, .int .i64 hi, .int .i64 dn, .int .i64 sp, .int .i64 tr, .slice (some ⟨b, off, none⟩) l.length qc, .int .i64 la, .int .i64 tw, .int .i64 pd]) ∧ Hid (Blk wr wo.heap.size 50 #[.int .i64 at0, .int .i64 sq0, .int .i64 ti0, .bool mk0, .int .u8 ty0, .slice B0 pl0.length c0]) ∧ Hid (Bel w wr))
        case atStart => exact ⟨0, by omega, rfl, Lib.hid (fun i h => absurd h (by omega)), BSZ, BXZ, UZ⟩
        case round =>
          obtain ⟨y, hhm, rfl, HD, BS2, BX2, U2⟩ := hrel
          have hm0 : (0 : Int) ≤ (y : Int) := by omega
          have u1 := BX2.out.at 1 _ rfl
          have u10 := BS2.out.at 10 _ rfl
          by_cases hmk : y < k
          rotate_left
          · obtain rfl : y = k := by omega
            have hmm : (y : Int) ≤ (y : Int) := Int.le_refl _
            go_wp2_with fail
            go_roundg (g0 - 1)
            case measure => omega
            case rel =>
              refine ⟨y + 1, by omega, by go_num, Lib.hid (fun j hj => ?_), BS2, U2⟩
              by_cases hj2 : j < y
              · exact HT.out j hj2
              · obtain rfl : j = y := by omega
                refine HO.out.2 ⟨⟨HOK.out, c1', c2', c3'⟩, ?_, HBF.out⟩
                rw [List.any_eq_false]
                intro x hx
                obtain ⟨yy, hy, rfl⟩ := List.mem_map.1 hx
                obtain ⟨i, hi', rfl⟩ := List.getElem_of_mem hy
                have hik : i < j := by simp at hi'; omega
                have h9 := HD.out i hik
                rw [Jb.getD_eq (by simp; omega)] at h9
                rw [List.getElem_take]
                simpa using h9
          have hmk1 : (y : Int) < (k : Int) := by omega
          have hml : (y : Int) < (l.length : Int) := by omega
          obtain ⟨a8, ha8⟩ : ∃ a, l[y]? = some a := ⟨_, List.getElem?_eq_getElem (by omega)⟩
          obtain ⟨b8, off8, he8, hb8, z0, z1, z2, z3, z4, z5⟩ := rowsW (HA.out.1.keep (fun p hp => U2.out.cell hp)) ha8
          injection he8 with he8
          injection he8 with he8a he8b
          subst he8a he8b
          have hm8 : (l.map TW.w)[y]? = some a8.w := by rw [List.getElem?_map, ha8]; rfl
          have HM8 := Lib.hid hm8
          obtain ⟨sq8, hsq8⟩ : ∃ x, x = a8.w.m.sq := ⟨_, rfl⟩
          rw [← hsq8] at z1
          have HSQ8 := Lib.hid hsq8
          clear ha8 hm8 hsq8 z0 z2 z3 z4 z5
          by_cases heq : sq8 = sq0
          · have hee : (sq8 == sq0) = true := by simpa using heq
            have hv : v = false := HN.out (fun h => by
              have h9 := (HO.out.1 h).2.1
              rw [List.any_eq_false] at h9
              exact h9 sq8 (List.mem_map.2 ⟨a8.w, List.mem_of_getElem? (i := y) (by rw [List.getElem?_take, if_pos (by omega)]; exact HM8.out), HSQ8.out.symm⟩) hee)
            subst hv
            clear heq
            go_wp2_with fail
            go_quiet (fail)
            go_wp2_with fail
            go_ret
            exact ⟨by first | rfl | simp, U2.out.drewN _⟩
          have hee : (sq8 == sq0) = false := by simpa using heq
          have HNE := Lib.hid heq
          clear heq
          go_wp2_with fail
          go_quiet (fail)
          go_wp2_with fail
          go_roundg (gk - 1)
          case measure => omega
          case rel =>
            refine ⟨y + 1, by omega, by go_num, Lib.hid (fun i hi2 => ?_), Lib.hid (BS2.out.drewN _), Lib.hid (BX2.out.drewN _), Lib.hid (U2.out.drewN _)⟩
            by_cases hi3 : i < y
            · exact HD.out i hi3
            · obtain rfl : i = y := by omega
              have h9 := HM8.out
              rw [List.getD_eq_getElem?_getD, h9]
              show a8.w.m.sq ≠ sq0
              rw [← HSQ8.out]
              exact HNE.out
    obtain ⟨m, hkm⟩ : ∃ m, k = m + 1 := ⟨k - 1, by omega⟩
    have hkp : (0 : Int) < (k : Int) := by omega
    have hkd : decide ((0 : Int) < (k : Int)) = true := by rw [decide_eq_true_iff]; exact hkp
    have HKD := Lib.hid hkd
    have hkdn : decide (0 < k) = true := by rw [decide_eq_true_iff]; omega
    have HKDN := Lib.hid hkdn
    clear hk0 hkd hkdn
    obtain ⟨a9, ha9⟩ : ∃ a, l[m]? = some a := ⟨_, List.getElem?_eq_getElem (by omega)⟩
    obtain ⟨b9, off9, he9, hbB9, q0, q1, q2, q3, q4, q5⟩ := rowsW (HA.out.1.keep (fun p hp => U1.out.cell hp)) ha9
    injection he9 with he9
    injection he9 with he9a he9b
    subst he9a he9b
    have hm9 : (l.map TW.w)[m]? = some a9.w := by rw [List.getElem?_map, ha9]; rfl
    have HM9 := Lib.hid hm9
    obtain ⟨⟨at9, ⟨sq9, ti9, mk9, ty9, pl9⟩⟩, B9, c9⟩ := a9
    simp only at q0 q1 q2 q3 q4 q5 HM9
    clear ha9 hm9
    obtain ⟨bv, hbv⟩ : ∃ bv, bv = decide (at9 < at0 ∨ (at9 = at0 ∧ sq9 < sq0)) := ⟨_, rfl⟩
    have k2 := Lib.hid fun W => before_any at9 sq9 ti9 ty9 at0 sq0 ti0 ty0 mk9 mk0 B9 B0 pl9.length c9 pl0.length c0 W bv hbv
    have hgd : (l.map TW.w).getD (k - 1) Jb.Wt.zero = ⟨at9, ⟨sq9, ti9, mk9, ty9, pl9⟩⟩ := by rw [hkm, Nat.add_sub_cancel]; simp [List.getD_eq_getElem?_getD, HM9.out]
    have HGD := Lib.hid hgd
    have HBV := Lib.hid hbv
    have hm1 : (m : Int) < (l.length : Int) := by omega
    have hm0 : (0 : Int) ≤ (m : Int) := by omega
    have hw2 : IntKind.i64.wrap ((k : Int) - 1) = (m : Int) := by rw [i64_small _ (by omega) (by omega)]; omega
    have hw3 : (k : Int) - 1 = (m : Int) := by omega
    have hw4 : IntKind.i64.wrap (m : Int) = (m : Int) := i64_small _ (by omega) (by omega)
    have hm2 : m < l.length := by omega
    have hmk9 : m + 1 = k := hkm.symm
    have HKM := Lib.hid hkm
    clear hgd hbv hkm hmk9
    cases bv
    · have hv : v = false := HN.out (fun h => by
        have h9 := (HO.out.1 h).2.2 (by have h7 := HKM.out; omega)
        rw [HGD.out] at h9
        have h8 := HBV.out
        rw [eq_comm, decide_eq_false_iff_not] at h8
        exact h8 h9)
      subst hv
      go_wp2_with fail
      rw [← HWX.out]
      refine wp_region_held_drew (S := fun w' => Below wx.heap.size wx w' ∧ w'.cell? ⟨wo.heap.size, 0, none⟩ = some (.int .i64 at0) ∧ w'.cell? ⟨wo.heap.size, 1, none⟩ = some (.int .i64 sq0) ∧ w'.cell? ⟨wo.heap.size, 2, none⟩ = some (.int .i64 ti0) ∧ w'.cell? ⟨wo.heap.size, 3, none⟩ = some (.bool mk0) ∧ w'.cell? ⟨wo.heap.size, 4, none⟩ = some (.int .u8 ty0) ∧ w'.cell? ⟨wo.heap.size, 5, none⟩ = some (.slice B0 pl0.length c0) ∧ w'.cell? ⟨w.heap.size, 2, none⟩ = some (.int .i64 nw) ∧ w'.cell? ⟨w.heap.size, 6, none⟩ = some (.int .i64 hi) ∧ w'.cell? ⟨w.heap.size, 10, none⟩ = some (.slice (some ⟨b, off, none⟩) l.length qc) ∧ w'.cell? ⟨b, off + m * 6, none⟩ = some (.int .i64 at9) ∧ w'.cell? ⟨b, off + m * 6 + 1, none⟩ = some (.int .i64 sq9) ∧ w'.cell? ⟨b, off + m * 6 + 2, none⟩ = some (.int .i64 ti9) ∧ w'.cell? ⟨b, off + m * 6 + 3, none⟩ = some (.bool mk9) ∧ w'.cell? ⟨b, off + m * 6 + 4, none⟩ = some (.int .u8 ty9) ∧ w'.cell? ⟨b, off + m * 6 + 5, none⟩ = some (.slice B9 pl9.length c9)) (by kernel_rfl) ?_ (fun hHeld => ?_)
      · (first | assumption | ((try go_split_ands); refine and_dep ?_ (fun hbX => ⟨cell_old hbX f0, cell_old hbX f1, cell_old hbX f2, cell_old hbX f3, cell_old hbX f4, cell_old hbX f5, cell_old hbX g2, cell_old hbX g6, cell_old hbX g10, cell_old hbX q0, cell_old hbX q1, cell_old hbX q2, cell_old hbX q3, cell_old hbX q4, cell_old hbX q5⟩); (with_reducible repeat first | assumption | exact below_old' (by assumption) (by assumption) | refine Below.drew ?_ | refine below_new_old ?_ _)))
      first
        | (refine tk1 (i := 0) (v := ?_) rfl (Or.inl ⟨by rfl, ?_⟩) (by assumption) ?_
           rotate_left
           · (intro w hSw; (try dsimp only at hSw); go_simp; try with_reducible rfl))
        | refine tk1 (i := 0) (v := undef) rfl (Or.inr ⟨by rfl, rfl⟩) (by assumption) ?_
      try simp only [List.getElem_toArray, List.getElem_cons_zero, List.getElem_cons_succ, Act.put, List.setIfInBounds_toArray, List.set_cons_zero, List.set_cons_succ, Dc1.out, Dc2.out, Dc3.out, HKD.out, HKDN.out]
      first
        | (refine tk1 (i := 1) (v := ?_) rfl (Or.inl ⟨by rfl, ?_⟩) (by assumption) ?_
           rotate_left
           · (intro w hSw; (try dsimp only at hSw); go_simp; try with_reducible rfl))
        | refine tk1 (i := 1) (v := undef) rfl (Or.inr ⟨by rfl, rfl⟩) (by assumption) ?_
      try simp only [List.getElem_toArray, List.getElem_cons_zero, List.getElem_cons_succ, Act.put, List.setIfInBounds_toArray, List.set_cons_zero, List.set_cons_succ, Dc1.out, Dc2.out, Dc3.out, HKD.out, HKDN.out]
      refine wpAnyH_ready (rs := [2]) (by kernel_rfl) (by simp) ?_
      refine AllReadyH.cons (o := _) rfl (fun K hK => ?_) ?_
      rotate_left
      · exact AllReadyH.nil
      go_simp
      (go_at_call 25; refine (k1.out _).mono ?_; rintro e w' ⟨rfl, hbel⟩; have hbw : Below wx.heap.size wx w' := below_old' hbel (by (try go_split_ands); assumption); obtain ⟨hcc, hff⟩ := bcell hbel)
      refine hK.out _ _ ?_ (fun hHeld => ?_)
      · (try dsimp only)
        (first | assumption | ((try go_split_ands); refine and_dep ?_ (fun hbX => ⟨cell_old hbX f0, cell_old hbX f1, cell_old hbX f2, cell_old hbX f3, cell_old hbX f4, cell_old hbX f5, cell_old hbX g2, cell_old hbX g6, cell_old hbX g10, cell_old hbX q0, cell_old hbX q1, cell_old hbX q2, cell_old hbX q3, cell_old hbX q4, cell_old hbX q5⟩); (with_reducible repeat first | assumption | exact below_old' (by assumption) (by assumption) | refine Below.drew ?_ | refine below_new_old ?_ _)))
      clear hK K
      try simp only [List.getElem_toArray, List.getElem_cons_zero, List.getElem_cons_succ, Act.put, List.setIfInBounds_toArray, List.set_cons_zero, List.set_cons_succ, Dc1.out, Dc2.out, Dc3.out, HKD.out, HKDN.out]
      first
        | (refine tk1 (i := 3) (v := ?_) rfl (Or.inl ⟨by rfl, ?_⟩) (by assumption) ?_
           rotate_left
           · (intro w hSw; (try dsimp only at hSw); go_simp; try with_reducible rfl))
        | refine tk1 (i := 3) (v := undef) rfl (Or.inr ⟨by rfl, rfl⟩) (by assumption) ?_
      try simp only [List.getElem_toArray, List.getElem_cons_zero, List.getElem_cons_succ, Act.put, List.setIfInBounds_toArray, List.set_cons_zero, List.set_cons_succ, Dc1.out, Dc2.out, Dc3.out, HKD.out, HKDN.out]
      first
        | (refine tk1 (i := 4) (v := ?_) rfl (Or.inl ⟨by rfl, ?_⟩) (by assumption) ?_
           rotate_left
           · (intro w hSw; (try dsimp only at hSw); go_simp; try with_reducible rfl))
        | refine tk1 (i := 4) (v := undef) rfl (Or.inr ⟨by rfl, rfl⟩) (by assumption) ?_
      try simp only [List.getElem_toArray, List.getElem_cons_zero, List.getElem_cons_succ, Act.put, List.setIfInBounds_toArray, List.set_cons_zero, List.set_cons_succ, Dc1.out, Dc2.out, Dc3.out, HKD.out, HKDN.out]
      first
        | (refine tk1 (i := 5) (v := ?_) rfl (Or.inl ⟨by rfl, ?_⟩) (by assumption) ?_
           rotate_left
           · (intro w hSw; (try dsimp only at hSw); go_simp; try with_reducible rfl))
        | refine tk1 (i := 5) (v := undef) rfl (Or.inr ⟨by rfl, rfl⟩) (by assumption) ?_
      try simp only [List.getElem_toArray, List.getElem_cons_zero, List.getElem_cons_succ, Act.put, List.setIfInBounds_toArray, List.set_cons_zero, List.set_cons_succ, Dc1.out, Dc2.out, Dc3.out, HKD.out, HKDN.out]
      first
        | (refine tk1 (i := 6) (v := ?_) rfl (Or.inl ⟨by rfl, ?_⟩) (by assumption) ?_
           rotate_left
           · (intro w hSw; (try dsimp only at hSw); go_simp; try with_reducible rfl))
        | refine tk1 (i := 6) (v := undef) rfl (Or.inr ⟨by rfl, rfl⟩) (by assumption) ?_
      try simp only [List.getElem_toArray, List.getElem_cons_zero, List.getElem_cons_succ, Act.put, List.setIfInBounds_toArray, List.set_cons_zero, List.set_cons_succ, Dc1.out, Dc2.out, Dc3.out, HKD.out, HKDN.out]
      first
        | (refine tk1 (i := 7) (v := ?_) rfl (Or.inl ⟨by rfl, ?_⟩) (by assumption) ?_
           rotate_left
           · (intro w hSw; (try dsimp only at hSw); go_simp; try with_reducible rfl))
        | refine tk1 (i := 7) (v := undef) rfl (Or.inr ⟨by rfl, rfl⟩) (by assumption) ?_
      try simp only [List.getElem_toArray, List.getElem_cons_zero, List.getElem_cons_succ, Act.put, List.setIfInBounds_toArray, List.set_cons_zero, List.set_cons_succ, Dc1.out, Dc2.out, Dc3.out, HKD.out, HKDN.out]
      first
        | (refine tk1 (i := 8) (v := ?_) rfl (Or.inl ⟨by rfl, ?_⟩) (by assumption) ?_
           rotate_left
           · (intro w hSw; (try dsimp only at hSw); go_simp; try with_reducible rfl))
        | refine tk1 (i := 8) (v := undef) rfl (Or.inr ⟨by rfl, rfl⟩) (by assumption) ?_
      try simp only [List.getElem_toArray, List.getElem_cons_zero, List.getElem_cons_succ, Act.put, List.setIfInBounds_toArray, List.set_cons_zero, List.set_cons_succ, Dc1.out, Dc2.out, Dc3.out, HKD.out, HKDN.out]
      first
        | (refine tk1 (i := 9) (v := ?_) rfl (Or.inl ⟨by rfl, ?_⟩) (by assumption) ?_
           rotate_left
           · (intro w hSw; (try dsimp only at hSw); go_simp; try with_reducible rfl))
        | refine tk1 (i := 9) (v := undef) rfl (Or.inr ⟨by rfl, rfl⟩) (by assumption) ?_
      try simp only [List.getElem_toArray, List.getElem_cons_zero, List.getElem_cons_succ, Act.put, List.setIfInBounds_toArray, List.set_cons_zero, List.set_cons_succ, Dc1.out, Dc2.out, Dc3.out, HKD.out, HKDN.out]
      first
        | (refine tk1 (i := 10) (v := ?_) rfl (Or.inl ⟨by rfl, ?_⟩) (by assumption) ?_
           rotate_left
           · (intro w hSw; (try dsimp only at hSw); go_simp; try with_reducible rfl))
        | refine tk1 (i := 10) (v := undef) rfl (Or.inr ⟨by rfl, rfl⟩) (by assumption) ?_
      try simp only [List.getElem_toArray, List.getElem_cons_zero, List.getElem_cons_succ, Act.put, List.setIfInBounds_toArray, List.set_cons_zero, List.set_cons_succ, Dc1.out, Dc2.out, Dc3.out, HKD.out, HKDN.out]
      first
        | (refine tk1 (i := 11) (v := ?_) rfl (Or.inl ⟨by rfl, ?_⟩) (by assumption) ?_
           rotate_left
           · (intro w hSw; (try dsimp only at hSw); go_simp; try with_reducible rfl))
        | refine tk1 (i := 11) (v := undef) rfl (Or.inr ⟨by rfl, rfl⟩) (by assumption) ?_
      try simp only [List.getElem_toArray, List.getElem_cons_zero, List.getElem_cons_succ, Act.put, List.setIfInBounds_toArray, List.set_cons_zero, List.set_cons_succ, Dc1.out, Dc2.out, Dc3.out, HKD.out, HKDN.out]
      first
        | (refine tk1 (i := 12) (v := ?_) rfl (Or.inl ⟨by rfl, ?_⟩) (by assumption) ?_
           rotate_left
           · (intro w hSw; (try dsimp only at hSw); go_simp; try with_reducible rfl))
        | refine tk1 (i := 12) (v := undef) rfl (Or.inr ⟨by rfl, rfl⟩) (by assumption) ?_
      try simp only [List.getElem_toArray, List.getElem_cons_zero, List.getElem_cons_succ, Act.put, List.setIfInBounds_toArray, List.set_cons_zero, List.set_cons_succ, Dc1.out, Dc2.out, Dc3.out, HKD.out, HKDN.out]
      first
        | (refine tk1 (i := 13) (v := ?_) rfl (Or.inl ⟨by rfl, ?_⟩) (by assumption) ?_
           rotate_left
           · (intro w hSw; (try dsimp only at hSw); go_simp; try with_reducible rfl))
        | refine tk1 (i := 13) (v := undef) rfl (Or.inr ⟨by rfl, rfl⟩) (by assumption) ?_
      try simp only [List.getElem_toArray, List.getElem_cons_zero, List.getElem_cons_succ, Act.put, List.setIfInBounds_toArray, List.set_cons_zero, List.set_cons_succ, Dc1.out, Dc2.out, Dc3.out, HKD.out, HKDN.out]
      first
        | (refine tk1 (i := 14) (v := ?_) rfl (Or.inl ⟨by rfl, ?_⟩) (by assumption) ?_
           rotate_left
           · (intro w hSw; (try dsimp only at hSw); go_simp; try with_reducible rfl))
        | refine tk1 (i := 14) (v := undef) rfl (Or.inr ⟨by rfl, rfl⟩) (by assumption) ?_
      try simp only [List.getElem_toArray, List.getElem_cons_zero, List.getElem_cons_succ, Act.put, List.setIfInBounds_toArray, List.set_cons_zero, List.set_cons_succ, Dc1.out, Dc2.out, Dc3.out, HKD.out, HKDN.out]
      first
        | (refine tk1 (i := 15) (v := ?_) rfl (Or.inl ⟨by rfl, ?_⟩) (by assumption) ?_
           rotate_left
           · (intro w hSw; (try dsimp only at hSw); go_simp; try with_reducible rfl))
        | refine tk1 (i := 15) (v := undef) rfl (Or.inr ⟨by rfl, rfl⟩) (by assumption) ?_
      try simp only [List.getElem_toArray, List.getElem_cons_zero, List.getElem_cons_succ, Act.put, List.setIfInBounds_toArray, List.set_cons_zero, List.set_cons_succ, Dc1.out, Dc2.out, Dc3.out, HKD.out, HKDN.out]
      first
        | (refine tk1 (i := 16) (v := ?_) rfl (Or.inl ⟨by rfl, ?_⟩) (by assumption) ?_
           rotate_left
           · (intro w hSw; (try dsimp only at hSw); go_simp; try with_reducible rfl))
        | refine tk1 (i := 16) (v := undef) rfl (Or.inr ⟨by rfl, rfl⟩) (by assumption) ?_
      try simp only [List.getElem_toArray, List.getElem_cons_zero, List.getElem_cons_succ, Act.put, List.setIfInBounds_toArray, List.set_cons_zero, List.set_cons_succ, Dc1.out, Dc2.out, Dc3.out, HKD.out, HKDN.out]
      first
        | (refine tk1 (i := 17) (v := ?_) rfl (Or.inl ⟨by rfl, ?_⟩) (by assumption) ?_
           rotate_left
           · (intro w hSw; (try dsimp only at hSw); go_simp; try with_reducible rfl))
        | refine tk1 (i := 17) (v := undef) rfl (Or.inr ⟨by rfl, rfl⟩) (by assumption) ?_
      try simp only [List.getElem_toArray, List.getElem_cons_zero, List.getElem_cons_succ, Act.put, List.setIfInBounds_toArray, List.set_cons_zero, List.set_cons_succ, Dc1.out, Dc2.out, Dc3.out, HKD.out, HKDN.out]
      first
        | (refine tk1 (i := 18) (v := ?_) rfl (Or.inl ⟨by rfl, ?_⟩) (by assumption) ?_
           rotate_left
           · (intro w hSw; (try dsimp only at hSw); go_simp; try with_reducible rfl))
        | refine tk1 (i := 18) (v := undef) rfl (Or.inr ⟨by rfl, rfl⟩) (by assumption) ?_
      try simp only [List.getElem_toArray, List.getElem_cons_zero, List.getElem_cons_succ, Act.put, List.setIfInBounds_toArray, List.set_cons_zero, List.set_cons_succ, Dc1.out, Dc2.out, Dc3.out, HKD.out, HKDN.out]
      first
        | (refine tk1 (i := 19) (v := ?_) rfl (Or.inl ⟨by rfl, ?_⟩) (by assumption) ?_
           rotate_left
           · (intro w hSw; (try dsimp only at hSw); go_simp; try with_reducible rfl))
        | refine tk1 (i := 19) (v := undef) rfl (Or.inr ⟨by rfl, rfl⟩) (by assumption) ?_
      try simp only [List.getElem_toArray, List.getElem_cons_zero, List.getElem_cons_succ, Act.put, List.setIfInBounds_toArray, List.set_cons_zero, List.set_cons_succ, Dc1.out, Dc2.out, Dc3.out, HKD.out, HKDN.out]
      first
        | (refine tk1 (i := 20) (v := ?_) rfl (Or.inl ⟨by rfl, ?_⟩) (by assumption) ?_
           rotate_left
           · (intro w hSw; (try dsimp only at hSw); go_simp; try with_reducible rfl))
        | refine tk1 (i := 20) (v := undef) rfl (Or.inr ⟨by rfl, rfl⟩) (by assumption) ?_
      try simp only [List.getElem_toArray, List.getElem_cons_zero, List.getElem_cons_succ, Act.put, List.setIfInBounds_toArray, List.set_cons_zero, List.set_cons_succ, Dc1.out, Dc2.out, Dc3.out, HKD.out, HKDN.out]
      first
        | (refine tk1 (i := 21) (v := ?_) rfl (Or.inl ⟨by rfl, ?_⟩) (by assumption) ?_
           rotate_left
           · (intro w hSw; (try dsimp only at hSw); go_simp; try with_reducible rfl))
        | refine tk1 (i := 21) (v := undef) rfl (Or.inr ⟨by rfl, rfl⟩) (by assumption) ?_
      try simp only [List.getElem_toArray, List.getElem_cons_zero, List.getElem_cons_succ, Act.put, List.setIfInBounds_toArray, List.set_cons_zero, List.set_cons_succ, Dc1.out, Dc2.out, Dc3.out, HKD.out, HKDN.out]
      first
        | (refine tk1 (i := 22) (v := ?_) rfl (Or.inl ⟨by rfl, ?_⟩) (by assumption) ?_
           rotate_left
           · (intro w hSw; (try dsimp only at hSw); go_simp; try with_reducible rfl))
        | refine tk1 (i := 22) (v := undef) rfl (Or.inr ⟨by rfl, rfl⟩) (by assumption) ?_
      try simp only [List.getElem_toArray, List.getElem_cons_zero, List.getElem_cons_succ, Act.put, List.setIfInBounds_toArray, List.set_cons_zero, List.set_cons_succ, Dc1.out, Dc2.out, Dc3.out, HKD.out, HKDN.out]
      first
        | (refine tk1 (i := 23) (v := ?_) rfl (Or.inl ⟨by rfl, ?_⟩) (by assumption) ?_
           rotate_left
           · (intro w hSw; (try dsimp only at hSw); go_simp; try with_reducible rfl))
        | refine tk1 (i := 23) (v := undef) rfl (Or.inr ⟨by rfl, rfl⟩) (by assumption) ?_
      try simp only [List.getElem_toArray, List.getElem_cons_zero, List.getElem_cons_succ, Act.put, List.setIfInBounds_toArray, List.set_cons_zero, List.set_cons_succ, Dc1.out, Dc2.out, Dc3.out, HKD.out, HKDN.out]
      first
        | (refine tk1 (i := 24) (v := ?_) rfl (Or.inl ⟨by rfl, ?_⟩) (by assumption) ?_
           rotate_left
           · (intro w hSw; (try dsimp only at hSw); go_simp; try with_reducible rfl))
        | refine tk1 (i := 24) (v := undef) rfl (Or.inr ⟨by rfl, rfl⟩) (by assumption) ?_
      try simp only [List.getElem_toArray, List.getElem_cons_zero, List.getElem_cons_succ, Act.put, List.setIfInBounds_toArray, List.set_cons_zero, List.set_cons_succ, Dc1.out, Dc2.out, Dc3.out, HKD.out, HKDN.out]
      first
        | (refine tk1 (i := 25) (v := ?_) rfl (Or.inl ⟨by rfl, ?_⟩) (by assumption) ?_
           rotate_left
           · (intro w hSw; (try dsimp only at hSw); go_simp; try with_reducible rfl))
        | refine tk1 (i := 25) (v := undef) rfl (Or.inr ⟨by rfl, rfl⟩) (by assumption) ?_
      try simp only [List.getElem_toArray, List.getElem_cons_zero, List.getElem_cons_succ, Act.put, List.setIfInBounds_toArray, List.set_cons_zero, List.set_cons_succ, Dc1.out, Dc2.out, Dc3.out, HKD.out, HKDN.out]
      first
        | (refine tk1 (i := 26) (v := ?_) rfl (Or.inl ⟨by rfl, ?_⟩) (by assumption) ?_
           rotate_left
           · (intro w hSw; (try dsimp only at hSw); go_simp; try with_reducible rfl))
        | refine tk1 (i := 26) (v := undef) rfl (Or.inr ⟨by rfl, rfl⟩) (by assumption) ?_
      try simp only [List.getElem_toArray, List.getElem_cons_zero, List.getElem_cons_succ, Act.put, List.setIfInBounds_toArray, List.set_cons_zero, List.set_cons_succ, Dc1.out, Dc2.out, Dc3.out, HKD.out, HKDN.out]
      first
        | (refine tk1 (i := 27) (v := ?_) rfl (Or.inl ⟨by rfl, ?_⟩) (by assumption) ?_
           rotate_left
           · (intro w hSw; (try dsimp only at hSw); go_simp; try with_reducible rfl))
        | refine tk1 (i := 27) (v := undef) rfl (Or.inr ⟨by rfl, rfl⟩) (by assumption) ?_
      try simp only [List.getElem_toArray, List.getElem_cons_zero, List.getElem_cons_succ, Act.put, List.setIfInBounds_toArray, List.set_cons_zero, List.set_cons_succ, Dc1.out, Dc2.out, Dc3.out, HKD.out, HKDN.out]
      first
        | (refine tk1 (i := 28) (v := ?_) rfl (Or.inl ⟨by rfl, ?_⟩) (by assumption) ?_
           rotate_left
           · (intro w hSw; (try dsimp only at hSw); go_simp; try with_reducible rfl))
        | refine tk1 (i := 28) (v := undef) rfl (Or.inr ⟨by rfl, rfl⟩) (by assumption) ?_
      try simp only [List.getElem_toArray, List.getElem_cons_zero, List.getElem_cons_succ, Act.put, List.setIfInBounds_toArray, List.set_cons_zero, List.set_cons_succ, Dc1.out, Dc2.out, Dc3.out, HKD.out, HKDN.out]
      first
        | (refine tk1 (i := 29) (v := ?_) rfl (Or.inl ⟨by rfl, ?_⟩) (by assumption) ?_
           rotate_left
           · (intro w hSw; (try dsimp only at hSw); go_simp; try with_reducible rfl))
        | refine tk1 (i := 29) (v := undef) rfl (Or.inr ⟨by rfl, rfl⟩) (by assumption) ?_
      try simp only [List.getElem_toArray, List.getElem_cons_zero, List.getElem_cons_succ, Act.put, List.setIfInBounds_toArray, List.set_cons_zero, List.set_cons_succ, Dc1.out, Dc2.out, Dc3.out, HKD.out, HKDN.out]
      first
        | (refine tk1 (i := 30) (v := ?_) rfl (Or.inl ⟨by rfl, ?_⟩) (by assumption) ?_
           rotate_left
           · (intro w hSw; (try dsimp only at hSw); go_simp; try with_reducible rfl))
        | refine tk1 (i := 30) (v := undef) rfl (Or.inr ⟨by rfl, rfl⟩) (by assumption) ?_
      try simp only [List.getElem_toArray, List.getElem_cons_zero, List.getElem_cons_succ, Act.put, List.setIfInBounds_toArray, List.set_cons_zero, List.set_cons_succ, Dc1.out, Dc2.out, Dc3.out, HKD.out, HKDN.out]
      first
        | (refine tk1 (i := 31) (v := ?_) rfl (Or.inl ⟨by rfl, ?_⟩) (by assumption) ?_
           rotate_left
           · (intro w hSw; (try dsimp only at hSw); go_simp; try with_reducible rfl))
        | refine tk1 (i := 31) (v := undef) rfl (Or.inr ⟨by rfl, rfl⟩) (by assumption) ?_
      try simp only [List.getElem_toArray, List.getElem_cons_zero, List.getElem_cons_succ, Act.put, List.setIfInBounds_toArray, List.set_cons_zero, List.set_cons_succ, Dc1.out, Dc2.out, Dc3.out, HKD.out, HKDN.out]
      first
        | (refine tk1 (i := 32) (v := ?_) rfl (Or.inl ⟨by rfl, ?_⟩) (by assumption) ?_
           rotate_left
           · (intro w hSw; (try dsimp only at hSw); go_simp; try with_reducible rfl))
        | refine tk1 (i := 32) (v := undef) rfl (Or.inr ⟨by rfl, rfl⟩) (by assumption) ?_
      try simp only [List.getElem_toArray, List.getElem_cons_zero, List.getElem_cons_succ, Act.put, List.setIfInBounds_toArray, List.set_cons_zero, List.set_cons_succ, Dc1.out, Dc2.out, Dc3.out, HKD.out, HKDN.out]
      first
        | (refine tk1 (i := 33) (v := ?_) rfl (Or.inl ⟨by rfl, ?_⟩) (by assumption) ?_
           rotate_left
           · (intro w hSw; (try dsimp only at hSw); go_simp; try with_reducible rfl))
        | refine tk1 (i := 33) (v := undef) rfl (Or.inr ⟨by rfl, rfl⟩) (by assumption) ?_
      try simp only [List.getElem_toArray, List.getElem_cons_zero, List.getElem_cons_succ, Act.put, List.setIfInBounds_toArray, List.set_cons_zero, List.set_cons_succ, Dc1.out, Dc2.out, Dc3.out, HKD.out, HKDN.out]
      first
        | (refine tk1 (i := 34) (v := ?_) rfl (Or.inl ⟨by rfl, ?_⟩) (by assumption) ?_
           rotate_left
           · (intro w hSw; (try dsimp only at hSw); go_simp; try with_reducible rfl))
        | refine tk1 (i := 34) (v := undef) rfl (Or.inr ⟨by rfl, rfl⟩) (by assumption) ?_
      try simp only [List.getElem_toArray, List.getElem_cons_zero, List.getElem_cons_succ, Act.put, List.setIfInBounds_toArray, List.set_cons_zero, List.set_cons_succ, Dc1.out, Dc2.out, Dc3.out, HKD.out, HKDN.out]
      refine wpAnyH_ready (rs := [35]) (by kernel_rfl) (by simp) ?_
      refine AllReadyH.cons (o := _) rfl (fun K hK => ?_) ?_
      rotate_left
      · exact AllReadyH.nil
      go_simp
      (go_at_call 55; refine (k2.out _).mono ?_; rintro e w' ⟨rfl, hbel2⟩; have hbw2 : Below wx.heap.size wx w' := below_old' hbel2 (by (try go_split_ands); assumption); obtain ⟨hcc2, hff2⟩ := bcell hbel2)
      refine hK.out _ _ ?_ (fun hHeld => ?_)
      · (try dsimp only)
        (first | assumption | ((try go_split_ands); refine and_dep ?_ (fun hbX => ⟨cell_old hbX f0, cell_old hbX f1, cell_old hbX f2, cell_old hbX f3, cell_old hbX f4, cell_old hbX f5, cell_old hbX g2, cell_old hbX g6, cell_old hbX g10, cell_old hbX q0, cell_old hbX q1, cell_old hbX q2, cell_old hbX q3, cell_old hbX q4, cell_old hbX q5⟩); (with_reducible repeat first | assumption | exact below_old' (by assumption) (by assumption) | refine Below.drew ?_ | refine below_new_old ?_ _)))
      clear hK K
      try simp only [List.getElem_toArray, List.getElem_cons_zero, List.getElem_cons_succ, Act.put, List.setIfInBounds_toArray, List.set_cons_zero, List.set_cons_succ, Dc1.out, Dc2.out, Dc3.out, HKD.out, HKDN.out]
      first
        | (refine tk1 (i := 36) (v := ?_) rfl (Or.inl ⟨by rfl, ?_⟩) (by assumption) ?_
           rotate_left
           · (intro w hSw; (try dsimp only at hSw); go_simp; try with_reducible rfl))
        | refine tk1 (i := 36) (v := undef) rfl (Or.inr ⟨by rfl, rfl⟩) (by assumption) ?_
      try simp only [List.getElem_toArray, List.getElem_cons_zero, List.getElem_cons_succ, Act.put, List.setIfInBounds_toArray, List.set_cons_zero, List.set_cons_succ, Dc1.out, Dc2.out, Dc3.out, HKD.out, HKDN.out]
      first
        | (refine tk1 (i := 37) (v := ?_) rfl (Or.inl ⟨by rfl, ?_⟩) (by assumption) ?_
           rotate_left
           · (intro w hSw; (try dsimp only at hSw); go_simp; try with_reducible rfl))
        | refine tk1 (i := 37) (v := undef) rfl (Or.inr ⟨by rfl, rfl⟩) (by assumption) ?_
      try simp only [List.getElem_toArray, List.getElem_cons_zero, List.getElem_cons_succ, Act.put, List.setIfInBounds_toArray, List.set_cons_zero, List.set_cons_succ, Dc1.out, Dc2.out, Dc3.out, HKD.out, HKDN.out]
      first
        | (refine tk1 (i := 38) (v := ?_) rfl (Or.inl ⟨by rfl, ?_⟩) (by assumption) ?_
           rotate_left
           · (intro w hSw; (try dsimp only at hSw); go_simp; try with_reducible rfl))
        | refine tk1 (i := 38) (v := undef) rfl (Or.inr ⟨by rfl, rfl⟩) (by assumption) ?_
      try simp only [List.getElem_toArray, List.getElem_cons_zero, List.getElem_cons_succ, Act.put, List.setIfInBounds_toArray, List.set_cons_zero, List.set_cons_succ, Dc1.out, Dc2.out, Dc3.out, HKD.out, HKDN.out]
      refine wpAnyH_done (by kernel_rfl) ?_ _
      all_goals
        have UZ := Lib.hid (U1.out.later hbw2)
        go_wp2_with fail
        go_ret
        exact ⟨by first | rfl | simp, UZ.out⟩
    go_wp2_with fail
    rw [← HWX.out]
    refine wp_region_held_drew (S := fun w' => Below wx.heap.size wx w' ∧ w'.cell? ⟨wo.heap.size, 0, none⟩ = some (.int .i64 at0) ∧ w'.cell? ⟨wo.heap.size, 1, none⟩ = some (.int .i64 sq0) ∧ w'.cell? ⟨wo.heap.size, 2, none⟩ = some (.int .i64 ti0) ∧ w'.cell? ⟨wo.heap.size, 3, none⟩ = some (.bool mk0) ∧ w'.cell? ⟨wo.heap.size, 4, none⟩ = some (.int .u8 ty0) ∧ w'.cell? ⟨wo.heap.size, 5, none⟩ = some (.slice B0 pl0.length c0) ∧ w'.cell? ⟨w.heap.size, 2, none⟩ = some (.int .i64 nw) ∧ w'.cell? ⟨w.heap.size, 6, none⟩ = some (.int .i64 hi) ∧ w'.cell? ⟨w.heap.size, 10, none⟩ = some (.slice (some ⟨b, off, none⟩) l.length qc) ∧ w'.cell? ⟨b, off + m * 6, none⟩ = some (.int .i64 at9) ∧ w'.cell? ⟨b, off + m * 6 + 1, none⟩ = some (.int .i64 sq9) ∧ w'.cell? ⟨b, off + m * 6 + 2, none⟩ = some (.int .i64 ti9) ∧ w'.cell? ⟨b, off + m * 6 + 3, none⟩ = some (.bool mk9) ∧ w'.cell? ⟨b, off + m * 6 + 4, none⟩ = some (.int .u8 ty9) ∧ w'.cell? ⟨b, off + m * 6 + 5, none⟩ = some (.slice B9 pl9.length c9)) (by kernel_rfl) ?_ (fun hHeld => ?_)
    · (first | assumption | ((try go_split_ands); refine and_dep ?_ (fun hbX => ⟨cell_old hbX f0, cell_old hbX f1, cell_old hbX f2, cell_old hbX f3, cell_old hbX f4, cell_old hbX f5, cell_old hbX g2, cell_old hbX g6, cell_old hbX g10, cell_old hbX q0, cell_old hbX q1, cell_old hbX q2, cell_old hbX q3, cell_old hbX q4, cell_old hbX q5⟩); (with_reducible repeat first | assumption | exact below_old' (by assumption) (by assumption) | refine Below.drew ?_ | refine below_new_old ?_ _)))
    first
      | (refine tk1 (i := 0) (v := ?_) rfl (Or.inl ⟨by rfl, ?_⟩) (by assumption) ?_
         rotate_left
         · (intro w hSw; (try dsimp only at hSw); go_simp; try with_reducible rfl))
      | refine tk1 (i := 0) (v := undef) rfl (Or.inr ⟨by rfl, rfl⟩) (by assumption) ?_
    try simp only [List.getElem_toArray, List.getElem_cons_zero, List.getElem_cons_succ, Act.put, List.setIfInBounds_toArray, List.set_cons_zero, List.set_cons_succ, Dc1.out, Dc2.out, Dc3.out, HKD.out, HKDN.out]
    first
      | (refine tk1 (i := 1) (v := ?_) rfl (Or.inl ⟨by rfl, ?_⟩) (by assumption) ?_
         rotate_left
         · (intro w hSw; (try dsimp only at hSw); go_simp; try with_reducible rfl))
      | refine tk1 (i := 1) (v := undef) rfl (Or.inr ⟨by rfl, rfl⟩) (by assumption) ?_
    try simp only [List.getElem_toArray, List.getElem_cons_zero, List.getElem_cons_succ, Act.put, List.setIfInBounds_toArray, List.set_cons_zero, List.set_cons_succ, Dc1.out, Dc2.out, Dc3.out, HKD.out, HKDN.out]
    refine wpAnyH_ready (rs := [2]) (by kernel_rfl) (by simp) ?_
    refine AllReadyH.cons (o := _) rfl (fun K hK => ?_) ?_
    rotate_left
    · exact AllReadyH.nil
    go_simp
    (go_at_call 25; refine (k1.out _).mono ?_; rintro e w' ⟨rfl, hbel⟩; have hbw : Below wx.heap.size wx w' := below_old' hbel (by (try go_split_ands); assumption); obtain ⟨hcc, hff⟩ := bcell hbel)
    refine hK.out _ _ ?_ (fun hHeld => ?_)
    · (try dsimp only)
      (first | assumption | ((try go_split_ands); refine and_dep ?_ (fun hbX => ⟨cell_old hbX f0, cell_old hbX f1, cell_old hbX f2, cell_old hbX f3, cell_old hbX f4, cell_old hbX f5, cell_old hbX g2, cell_old hbX g6, cell_old hbX g10, cell_old hbX q0, cell_old hbX q1, cell_old hbX q2, cell_old hbX q3, cell_old hbX q4, cell_old hbX q5⟩); (with_reducible repeat first | assumption | exact below_old' (by assumption) (by assumption) | refine Below.drew ?_ | refine below_new_old ?_ _)))
    clear hK K
    try simp only [List.getElem_toArray, List.getElem_cons_zero, List.getElem_cons_succ, Act.put, List.setIfInBounds_toArray, List.set_cons_zero, List.set_cons_succ, Dc1.out, Dc2.out, Dc3.out, HKD.out, HKDN.out]
    first
      | (refine tk1 (i := 3) (v := ?_) rfl (Or.inl ⟨by rfl, ?_⟩) (by assumption) ?_
         rotate_left
         · (intro w hSw; (try dsimp only at hSw); go_simp; try with_reducible rfl))
      | refine tk1 (i := 3) (v := undef) rfl (Or.inr ⟨by rfl, rfl⟩) (by assumption) ?_
    try simp only [List.getElem_toArray, List.getElem_cons_zero, List.getElem_cons_succ, Act.put, List.setIfInBounds_toArray, List.set_cons_zero, List.set_cons_succ, Dc1.out, Dc2.out, Dc3.out, HKD.out, HKDN.out]
    first
      | (refine tk1 (i := 4) (v := ?_) rfl (Or.inl ⟨by rfl, ?_⟩) (by assumption) ?_
         rotate_left
         · (intro w hSw; (try dsimp only at hSw); go_simp; try with_reducible rfl))
      | refine tk1 (i := 4) (v := undef) rfl (Or.inr ⟨by rfl, rfl⟩) (by assumption) ?_
    try simp only [List.getElem_toArray, List.getElem_cons_zero, List.getElem_cons_succ, Act.put, List.setIfInBounds_toArray, List.set_cons_zero, List.set_cons_succ, Dc1.out, Dc2.out, Dc3.out, HKD.out, HKDN.out]
    first
      | (refine tk1 (i := 5) (v := ?_) rfl (Or.inl ⟨by rfl, ?_⟩) (by assumption) ?_
         rotate_left
         · (intro w hSw; (try dsimp only at hSw); go_simp; try with_reducible rfl))
      | refine tk1 (i := 5) (v := undef) rfl (Or.inr ⟨by rfl, rfl⟩) (by assumption) ?_
    try simp only [List.getElem_toArray, List.getElem_cons_zero, List.getElem_cons_succ, Act.put, List.setIfInBounds_toArray, List.set_cons_zero, List.set_cons_succ, Dc1.out, Dc2.out, Dc3.out, HKD.out, HKDN.out]
    first
      | (refine tk1 (i := 6) (v := ?_) rfl (Or.inl ⟨by rfl, ?_⟩) (by assumption) ?_
         rotate_left
         · (intro w hSw; (try dsimp only at hSw); go_simp; try with_reducible rfl))
      | refine tk1 (i := 6) (v := undef) rfl (Or.inr ⟨by rfl, rfl⟩) (by assumption) ?_
    try simp only [List.getElem_toArray, List.getElem_cons_zero, List.getElem_cons_succ, Act.put, List.setIfInBounds_toArray, List.set_cons_zero, List.set_cons_succ, Dc1.out, Dc2.out, Dc3.out, HKD.out, HKDN.out]
    first
      | (refine tk1 (i := 7) (v := ?_) rfl (Or.inl ⟨by rfl, ?_⟩) (by assumption) ?_
         rotate_left
         · (intro w hSw; (try dsimp only at hSw); go_simp; try with_reducible rfl))
      | refine tk1 (i := 7) (v := undef) rfl (Or.inr ⟨by rfl, rfl⟩) (by assumption) ?_
    try simp only [List.getElem_toArray, List.getElem_cons_zero, List.getElem_cons_succ, Act.put, List.setIfInBounds_toArray, List.set_cons_zero, List.set_cons_succ, Dc1.out, Dc2.out, Dc3.out, HKD.out, HKDN.out]
    first
      | (refine tk1 (i := 8) (v := ?_) rfl (Or.inl ⟨by rfl, ?_⟩) (by assumption) ?_
         rotate_left
         · (intro w hSw; (try dsimp only at hSw); go_simp; try with_reducible rfl))
      | refine tk1 (i := 8) (v := undef) rfl (Or.inr ⟨by rfl, rfl⟩) (by assumption) ?_
    try simp only [List.getElem_toArray, List.getElem_cons_zero, List.getElem_cons_succ, Act.put, List.setIfInBounds_toArray, List.set_cons_zero, List.set_cons_succ, Dc1.out, Dc2.out, Dc3.out, HKD.out, HKDN.out]
    first
      | (refine tk1 (i := 9) (v := ?_) rfl (Or.inl ⟨by rfl, ?_⟩) (by assumption) ?_
         rotate_left
         · (intro w hSw; (try dsimp only at hSw); go_simp; try with_reducible rfl))
      | refine tk1 (i := 9) (v := undef) rfl (Or.inr ⟨by rfl, rfl⟩) (by assumption) ?_
    try simp only [List.getElem_toArray, List.getElem_cons_zero, List.getElem_cons_succ, Act.put, List.setIfInBounds_toArray, List.set_cons_zero, List.set_cons_succ, Dc1.out, Dc2.out, Dc3.out, HKD.out, HKDN.out]
    first
      | (refine tk1 (i := 10) (v := ?_) rfl (Or.inl ⟨by rfl, ?_⟩) (by assumption) ?_
         rotate_left
         · (intro w hSw; (try dsimp only at hSw); go_simp; try with_reducible rfl))
      | refine tk1 (i := 10) (v := undef) rfl (Or.inr ⟨by rfl, rfl⟩) (by assumption) ?_
    try simp only [List.getElem_toArray, List.getElem_cons_zero, List.getElem_cons_succ, Act.put, List.setIfInBounds_toArray, List.set_cons_zero, List.set_cons_succ, Dc1.out, Dc2.out, Dc3.out, HKD.out, HKDN.out]
    first
      | (refine tk1 (i := 11) (v := ?_) rfl (Or.inl ⟨by rfl, ?_⟩) (by assumption) ?_
         rotate_left
         · (intro w hSw; (try dsimp only at hSw); go_simp; try with_reducible rfl))
      | refine tk1 (i := 11) (v := undef) rfl (Or.inr ⟨by rfl, rfl⟩) (by assumption) ?_
    try simp only [List.getElem_toArray, List.getElem_cons_zero, List.getElem_cons_succ, Act.put, List.setIfInBounds_toArray, List.set_cons_zero, List.set_cons_succ, Dc1.out, Dc2.out, Dc3.out, HKD.out, HKDN.out]
    first
      | (refine tk1 (i := 12) (v := ?_) rfl (Or.inl ⟨by rfl, ?_⟩) (by assumption) ?_
         rotate_left
         · (intro w hSw; (try dsimp only at hSw); go_simp; try with_reducible rfl))
      | refine tk1 (i := 12) (v := undef) rfl (Or.inr ⟨by rfl, rfl⟩) (by assumption) ?_
    try simp only [List.getElem_toArray, List.getElem_cons_zero, List.getElem_cons_succ, Act.put, List.setIfInBounds_toArray, List.set_cons_zero, List.set_cons_succ, Dc1.out, Dc2.out, Dc3.out, HKD.out, HKDN.out]
    first
      | (refine tk1 (i := 13) (v := ?_) rfl (Or.inl ⟨by rfl, ?_⟩) (by assumption) ?_
         rotate_left
         · (intro w hSw; (try dsimp only at hSw); go_simp; try with_reducible rfl))
      | refine tk1 (i := 13) (v := undef) rfl (Or.inr ⟨by rfl, rfl⟩) (by assumption) ?_
    try simp only [List.getElem_toArray, List.getElem_cons_zero, List.getElem_cons_succ, Act.put, List.setIfInBounds_toArray, List.set_cons_zero, List.set_cons_succ, Dc1.out, Dc2.out, Dc3.out, HKD.out, HKDN.out]
    first
      | (refine tk1 (i := 14) (v := ?_) rfl (Or.inl ⟨by rfl, ?_⟩) (by assumption) ?_
         rotate_left
         · (intro w hSw; (try dsimp only at hSw); go_simp; try with_reducible rfl))
      | refine tk1 (i := 14) (v := undef) rfl (Or.inr ⟨by rfl, rfl⟩) (by assumption) ?_
    try simp only [List.getElem_toArray, List.getElem_cons_zero, List.getElem_cons_succ, Act.put, List.setIfInBounds_toArray, List.set_cons_zero, List.set_cons_succ, Dc1.out, Dc2.out, Dc3.out, HKD.out, HKDN.out]
    first
      | (refine tk1 (i := 15) (v := ?_) rfl (Or.inl ⟨by rfl, ?_⟩) (by assumption) ?_
         rotate_left
         · (intro w hSw; (try dsimp only at hSw); go_simp; try with_reducible rfl))
      | refine tk1 (i := 15) (v := undef) rfl (Or.inr ⟨by rfl, rfl⟩) (by assumption) ?_
    try simp only [List.getElem_toArray, List.getElem_cons_zero, List.getElem_cons_succ, Act.put, List.setIfInBounds_toArray, List.set_cons_zero, List.set_cons_succ, Dc1.out, Dc2.out, Dc3.out, HKD.out, HKDN.out]
    first
      | (refine tk1 (i := 16) (v := ?_) rfl (Or.inl ⟨by rfl, ?_⟩) (by assumption) ?_
         rotate_left
         · (intro w hSw; (try dsimp only at hSw); go_simp; try with_reducible rfl))
      | refine tk1 (i := 16) (v := undef) rfl (Or.inr ⟨by rfl, rfl⟩) (by assumption) ?_
    try simp only [List.getElem_toArray, List.getElem_cons_zero, List.getElem_cons_succ, Act.put, List.setIfInBounds_toArray, List.set_cons_zero, List.set_cons_succ, Dc1.out, Dc2.out, Dc3.out, HKD.out, HKDN.out]
    first
      | (refine tk1 (i := 17) (v := ?_) rfl (Or.inl ⟨by rfl, ?_⟩) (by assumption) ?_
         rotate_left
         · (intro w hSw; (try dsimp only at hSw); go_simp; try with_reducible rfl))
      | refine tk1 (i := 17) (v := undef) rfl (Or.inr ⟨by rfl, rfl⟩) (by assumption) ?_
    try simp only [List.getElem_toArray, List.getElem_cons_zero, List.getElem_cons_succ, Act.put, List.setIfInBounds_toArray, List.set_cons_zero, List.set_cons_succ, Dc1.out, Dc2.out, Dc3.out, HKD.out, HKDN.out]
    first
      | (refine tk1 (i := 18) (v := ?_) rfl (Or.inl ⟨by rfl, ?_⟩) (by assumption) ?_
         rotate_left
         · (intro w hSw; (try dsimp only at hSw); go_simp; try with_reducible rfl))
      | refine tk1 (i := 18) (v := undef) rfl (Or.inr ⟨by rfl, rfl⟩) (by assumption) ?_
    try simp only [List.getElem_toArray, List.getElem_cons_zero, List.getElem_cons_succ, Act.put, List.setIfInBounds_toArray, List.set_cons_zero, List.set_cons_succ, Dc1.out, Dc2.out, Dc3.out, HKD.out, HKDN.out]
    first
      | (refine tk1 (i := 19) (v := ?_) rfl (Or.inl ⟨by rfl, ?_⟩) (by assumption) ?_
         rotate_left
         · (intro w hSw; (try dsimp only at hSw); go_simp; try with_reducible rfl))
      | refine tk1 (i := 19) (v := undef) rfl (Or.inr ⟨by rfl, rfl⟩) (by assumption) ?_
    try simp only [List.getElem_toArray, List.getElem_cons_zero, List.getElem_cons_succ, Act.put, List.setIfInBounds_toArray, List.set_cons_zero, List.set_cons_succ, Dc1.out, Dc2.out, Dc3.out, HKD.out, HKDN.out]
    first
      | (refine tk1 (i := 20) (v := ?_) rfl (Or.inl ⟨by rfl, ?_⟩) (by assumption) ?_
         rotate_left
         · (intro w hSw; (try dsimp only at hSw); go_simp; try with_reducible rfl))
      | refine tk1 (i := 20) (v := undef) rfl (Or.inr ⟨by rfl, rfl⟩) (by assumption) ?_
    try simp only [List.getElem_toArray, List.getElem_cons_zero, List.getElem_cons_succ, Act.put, List.setIfInBounds_toArray, List.set_cons_zero, List.set_cons_succ, Dc1.out, Dc2.out, Dc3.out, HKD.out, HKDN.out]
    first
      | (refine tk1 (i := 21) (v := ?_) rfl (Or.inl ⟨by rfl, ?_⟩) (by assumption) ?_
         rotate_left
         · (intro w hSw; (try dsimp only at hSw); go_simp; try with_reducible rfl))
      | refine tk1 (i := 21) (v := undef) rfl (Or.inr ⟨by rfl, rfl⟩) (by assumption) ?_
    try simp only [List.getElem_toArray, List.getElem_cons_zero, List.getElem_cons_succ, Act.put, List.setIfInBounds_toArray, List.set_cons_zero, List.set_cons_succ, Dc1.out, Dc2.out, Dc3.out, HKD.out, HKDN.out]
    first
      | (refine tk1 (i := 22) (v := ?_) rfl (Or.inl ⟨by rfl, ?_⟩) (by assumption) ?_
         rotate_left
         · (intro w hSw; (try dsimp only at hSw); go_simp; try with_reducible rfl))
      | refine tk1 (i := 22) (v := undef) rfl (Or.inr ⟨by rfl, rfl⟩) (by assumption) ?_
    try simp only [List.getElem_toArray, List.getElem_cons_zero, List.getElem_cons_succ, Act.put, List.setIfInBounds_toArray, List.set_cons_zero, List.set_cons_succ, Dc1.out, Dc2.out, Dc3.out, HKD.out, HKDN.out]
    first
      | (refine tk1 (i := 23) (v := ?_) rfl (Or.inl ⟨by rfl, ?_⟩) (by assumption) ?_
         rotate_left
         · (intro w hSw; (try dsimp only at hSw); go_simp; try with_reducible rfl))
      | refine tk1 (i := 23) (v := undef) rfl (Or.inr ⟨by rfl, rfl⟩) (by assumption) ?_
    try simp only [List.getElem_toArray, List.getElem_cons_zero, List.getElem_cons_succ, Act.put, List.setIfInBounds_toArray, List.set_cons_zero, List.set_cons_succ, Dc1.out, Dc2.out, Dc3.out, HKD.out, HKDN.out]
    first
      | (refine tk1 (i := 24) (v := ?_) rfl (Or.inl ⟨by rfl, ?_⟩) (by assumption) ?_
         rotate_left
         · (intro w hSw; (try dsimp only at hSw); go_simp; try with_reducible rfl))
      | refine tk1 (i := 24) (v := undef) rfl (Or.inr ⟨by rfl, rfl⟩) (by assumption) ?_
    try simp only [List.getElem_toArray, List.getElem_cons_zero, List.getElem_cons_succ, Act.put, List.setIfInBounds_toArray, List.set_cons_zero, List.set_cons_succ, Dc1.out, Dc2.out, Dc3.out, HKD.out, HKDN.out]
    first
      | (refine tk1 (i := 25) (v := ?_) rfl (Or.inl ⟨by rfl, ?_⟩) (by assumption) ?_
         rotate_left
         · (intro w hSw; (try dsimp only at hSw); go_simp; try with_reducible rfl))
      | refine tk1 (i := 25) (v := undef) rfl (Or.inr ⟨by rfl, rfl⟩) (by assumption) ?_
    try simp only [List.getElem_toArray, List.getElem_cons_zero, List.getElem_cons_succ, Act.put, List.setIfInBounds_toArray, List.set_cons_zero, List.set_cons_succ, Dc1.out, Dc2.out, Dc3.out, HKD.out, HKDN.out]
    first
      | (refine tk1 (i := 26) (v := ?_) rfl (Or.inl ⟨by rfl, ?_⟩) (by assumption) ?_
         rotate_left
         · (intro w hSw; (try dsimp only at hSw); go_simp; try with_reducible rfl))
      | refine tk1 (i := 26) (v := undef) rfl (Or.inr ⟨by rfl, rfl⟩) (by assumption) ?_
    try simp only [List.getElem_toArray, List.getElem_cons_zero, List.getElem_cons_succ, Act.put, List.setIfInBounds_toArray, List.set_cons_zero, List.set_cons_succ, Dc1.out, Dc2.out, Dc3.out, HKD.out, HKDN.out]
    first
      | (refine tk1 (i := 27) (v := ?_) rfl (Or.inl ⟨by rfl, ?_⟩) (by assumption) ?_
         rotate_left
         · (intro w hSw; (try dsimp only at hSw); go_simp; try with_reducible rfl))
      | refine tk1 (i := 27) (v := undef) rfl (Or.inr ⟨by rfl, rfl⟩) (by assumption) ?_
    try simp only [List.getElem_toArray, List.getElem_cons_zero, List.getElem_cons_succ, Act.put, List.setIfInBounds_toArray, List.set_cons_zero, List.set_cons_succ, Dc1.out, Dc2.out, Dc3.out, HKD.out, HKDN.out]
    first
      | (refine tk1 (i := 28) (v := ?_) rfl (Or.inl ⟨by rfl, ?_⟩) (by assumption) ?_
         rotate_left
         · (intro w hSw; (try dsimp only at hSw); go_simp; try with_reducible rfl))
      | refine tk1 (i := 28) (v := undef) rfl (Or.inr ⟨by rfl, rfl⟩) (by assumption) ?_
    try simp only [List.getElem_toArray, List.getElem_cons_zero, List.getElem_cons_succ, Act.put, List.setIfInBounds_toArray, List.set_cons_zero, List.set_cons_succ, Dc1.out, Dc2.out, Dc3.out, HKD.out, HKDN.out]
    first
      | (refine tk1 (i := 29) (v := ?_) rfl (Or.inl ⟨by rfl, ?_⟩) (by assumption) ?_
         rotate_left
         · (intro w hSw; (try dsimp only at hSw); go_simp; try with_reducible rfl))
      | refine tk1 (i := 29) (v := undef) rfl (Or.inr ⟨by rfl, rfl⟩) (by assumption) ?_
    try simp only [List.getElem_toArray, List.getElem_cons_zero, List.getElem_cons_succ, Act.put, List.setIfInBounds_toArray, List.set_cons_zero, List.set_cons_succ, Dc1.out, Dc2.out, Dc3.out, HKD.out, HKDN.out]
    first
      | (refine tk1 (i := 30) (v := ?_) rfl (Or.inl ⟨by rfl, ?_⟩) (by assumption) ?_
         rotate_left
         · (intro w hSw; (try dsimp only at hSw); go_simp; try with_reducible rfl))
      | refine tk1 (i := 30) (v := undef) rfl (Or.inr ⟨by rfl, rfl⟩) (by assumption) ?_
    try simp only [List.getElem_toArray, List.getElem_cons_zero, List.getElem_cons_succ, Act.put, List.setIfInBounds_toArray, List.set_cons_zero, List.set_cons_succ, Dc1.out, Dc2.out, Dc3.out, HKD.out, HKDN.out]
    first
      | (refine tk1 (i := 31) (v := ?_) rfl (Or.inl ⟨by rfl, ?_⟩) (by assumption) ?_
         rotate_left
         · (intro w hSw; (try dsimp only at hSw); go_simp; try with_reducible rfl))
      | refine tk1 (i := 31) (v := undef) rfl (Or.inr ⟨by rfl, rfl⟩) (by assumption) ?_
    try simp only [List.getElem_toArray, List.getElem_cons_zero, List.getElem_cons_succ, Act.put, List.setIfInBounds_toArray, List.set_cons_zero, List.set_cons_succ, Dc1.out, Dc2.out, Dc3.out, HKD.out, HKDN.out]
    first
      | (refine tk1 (i := 32) (v := ?_) rfl (Or.inl ⟨by rfl, ?_⟩) (by assumption) ?_
         rotate_left
         · (intro w hSw; (try dsimp only at hSw); go_simp; try with_reducible rfl))
      | refine tk1 (i := 32) (v := undef) rfl (Or.inr ⟨by rfl, rfl⟩) (by assumption) ?_
    try simp only [List.getElem_toArray, List.getElem_cons_zero, List.getElem_cons_succ, Act.put, List.setIfInBounds_toArray, List.set_cons_zero, List.set_cons_succ, Dc1.out, Dc2.out, Dc3.out, HKD.out, HKDN.out]
    first
      | (refine tk1 (i := 33) (v := ?_) rfl (Or.inl ⟨by rfl, ?_⟩) (by assumption) ?_
         rotate_left
         · (intro w hSw; (try dsimp only at hSw); go_simp; try with_reducible rfl))
      | refine tk1 (i := 33) (v := undef) rfl (Or.inr ⟨by rfl, rfl⟩) (by assumption) ?_
    try simp only [List.getElem_toArray, List.getElem_cons_zero, List.getElem_cons_succ, Act.put, List.setIfInBounds_toArray, List.set_cons_zero, List.set_cons_succ, Dc1.out, Dc2.out, Dc3.out, HKD.out, HKDN.out]
    first
      | (refine tk1 (i := 34) (v := ?_) rfl (Or.inl ⟨by rfl, ?_⟩) (by assumption) ?_
         rotate_left
         · (intro w hSw; (try dsimp only at hSw); go_simp; try with_reducible rfl))
      | refine tk1 (i := 34) (v := undef) rfl (Or.inr ⟨by rfl, rfl⟩) (by assumption) ?_
    try simp only [List.getElem_toArray, List.getElem_cons_zero, List.getElem_cons_succ, Act.put, List.setIfInBounds_toArray, List.set_cons_zero, List.set_cons_succ, Dc1.out, Dc2.out, Dc3.out, HKD.out, HKDN.out]
    refine wpAnyH_ready (rs := [35]) (by kernel_rfl) (by simp) ?_
    refine AllReadyH.cons (o := _) rfl (fun K hK => ?_) ?_
    rotate_left
    · exact AllReadyH.nil
    go_simp
    (go_at_call 55; refine (k2.out _).mono ?_; rintro e w' ⟨rfl, hbel2⟩; have hbw2 : Below wx.heap.size wx w' := below_old' hbel2 (by (try go_split_ands); assumption); obtain ⟨hcc2, hff2⟩ := bcell hbel2)
    refine hK.out _ _ ?_ (fun hHeld => ?_)
    · (try dsimp only)
      (first | assumption | ((try go_split_ands); refine and_dep ?_ (fun hbX => ⟨cell_old hbX f0, cell_old hbX f1, cell_old hbX f2, cell_old hbX f3, cell_old hbX f4, cell_old hbX f5, cell_old hbX g2, cell_old hbX g6, cell_old hbX g10, cell_old hbX q0, cell_old hbX q1, cell_old hbX q2, cell_old hbX q3, cell_old hbX q4, cell_old hbX q5⟩); (with_reducible repeat first | assumption | exact below_old' (by assumption) (by assumption) | refine Below.drew ?_ | refine below_new_old ?_ _)))
    clear hK K
    try simp only [List.getElem_toArray, List.getElem_cons_zero, List.getElem_cons_succ, Act.put, List.setIfInBounds_toArray, List.set_cons_zero, List.set_cons_succ, Dc1.out, Dc2.out, Dc3.out, HKD.out, HKDN.out]
    first
      | (refine tk1 (i := 36) (v := ?_) rfl (Or.inl ⟨by rfl, ?_⟩) (by assumption) ?_
         rotate_left
         · (intro w hSw; (try dsimp only at hSw); go_simp; try with_reducible rfl))
      | refine tk1 (i := 36) (v := undef) rfl (Or.inr ⟨by rfl, rfl⟩) (by assumption) ?_
    try simp only [List.getElem_toArray, List.getElem_cons_zero, List.getElem_cons_succ, Act.put, List.setIfInBounds_toArray, List.set_cons_zero, List.set_cons_succ, Dc1.out, Dc2.out, Dc3.out, HKD.out, HKDN.out]
    first
      | (refine tk1 (i := 37) (v := ?_) rfl (Or.inl ⟨by rfl, ?_⟩) (by assumption) ?_
         rotate_left
         · (intro w hSw; (try dsimp only at hSw); go_simp; try with_reducible rfl))
      | refine tk1 (i := 37) (v := undef) rfl (Or.inr ⟨by rfl, rfl⟩) (by assumption) ?_
    try simp only [List.getElem_toArray, List.getElem_cons_zero, List.getElem_cons_succ, Act.put, List.setIfInBounds_toArray, List.set_cons_zero, List.set_cons_succ, Dc1.out, Dc2.out, Dc3.out, HKD.out, HKDN.out]
    first
      | (refine tk1 (i := 38) (v := ?_) rfl (Or.inl ⟨by rfl, ?_⟩) (by assumption) ?_
         rotate_left
         · (intro w hSw; (try dsimp only at hSw); go_simp; try with_reducible rfl))
      | refine tk1 (i := 38) (v := undef) rfl (Or.inr ⟨by rfl, rfl⟩) (by assumption) ?_
    try simp only [List.getElem_toArray, List.getElem_cons_zero, List.getElem_cons_succ, Act.put, List.setIfInBounds_toArray, List.set_cons_zero, List.set_cons_succ, Dc1.out, Dc2.out, Dc3.out, HKD.out, HKDN.out]
    refine wpAnyH_done (by kernel_rfl) ?_ _
    all_goals
      have HBF : Hid (0 < k → Jb.bef ((l.map TW.w).getD (k - 1) Jb.Wt.zero) ⟨at0, ⟨sq0, ti0, mk0, ty0, pl0⟩⟩) := Lib.hid (fun _ => by rw [HGD.out]; have h8 := HBV.out; rw [eq_comm, decide_eq_true_iff] at h8; exact h8)
      obtain ⟨g0, hg0⟩ : ∃ g0, g0 = gk := ⟨_, rfl⟩
      subst hg0
      have BXZ := Lib.hid (BX.out.later hbw2)
      have BSZ := Lib.hid (BS1.out.later hbw2)
      have UZ := Lib.hid (U1.out.later hbw2)
      clear hm0 hm1 hm2 hw2 hw3 hw4
      clear hcc hff hbw hbel f0 f1 f2 f3 f4 f5 g2 g6 g10 hU
      clear hcc2 hff2 hbw2 hbel2 q0 q1 q2 q3 q4 q5
      go_wp2_with fail
      go_loopg [5] k (fun gj j wr => ∃ y : Nat, gj + y = k ∧ j = .int .i64 y ∧ Hid (∀ i, i < y → ((l.map TW.w).getD i Jb.Wt.zero).m.sq ≠ sq0) ∧ Hid (Blk wr w.heap.size 26 #[.int .i64 le, .int .i64 mo, .int .i64 nw, .bool on, .int .i64 ze, .int .i64 fi, .int .i64 hi, .int .i64 dn, .int .i64 sp, .int .i64 tr, .slice (some ⟨b, off, none⟩) l.length qc, .int .i64 la, .int .i64 tw, .int .i64 pd]) ∧ Hid (Blk wr wo.heap.size 50 #[.int .i64 at0, .int .i64 sq0, .int .i64 ti0, .bool mk0, .int .u8 ty0, .slice B0 pl0.length c0]) ∧ Hid (Bel w wr))
      case atStart => exact ⟨0, by omega, rfl, Lib.hid (fun i h => absurd h (by omega)), BSZ, BXZ, UZ⟩
      case round =>
        obtain ⟨y, hhm, rfl, HD, BS2, BX2, U2⟩ := hrel
        have hm0 : (0 : Int) ≤ (y : Int) := by omega
        have u1 := BX2.out.at 1 _ rfl
        have u10 := BS2.out.at 10 _ rfl
        by_cases hmk : y < k
        rotate_left
        · obtain rfl : y = k := by omega
          have hmm : (y : Int) ≤ (y : Int) := Int.le_refl _
          go_wp2_with fail
          go_roundg (g0 - 1)
          case measure => omega
          case rel =>
            refine ⟨y + 1, by omega, by go_num, Lib.hid (fun j hj => ?_), BS2, U2⟩
            by_cases hj2 : j < y
            · exact HT.out j hj2
            · obtain rfl : j = y := by omega
              refine HO.out.2 ⟨⟨HOK.out, c1', c2', c3'⟩, ?_, HBF.out⟩
              rw [List.any_eq_false]
              intro x hx
              obtain ⟨yy, hy, rfl⟩ := List.mem_map.1 hx
              obtain ⟨i, hi', rfl⟩ := List.getElem_of_mem hy
              have hik : i < j := by simp at hi'; omega
              have h9 := HD.out i hik
              rw [Jb.getD_eq (by simp; omega)] at h9
              rw [List.getElem_take]
              simpa using h9
        have hmk1 : (y : Int) < (k : Int) := by omega
        have hml : (y : Int) < (l.length : Int) := by omega
        obtain ⟨a8, ha8⟩ : ∃ a, l[y]? = some a := ⟨_, List.getElem?_eq_getElem (by omega)⟩
        obtain ⟨b8, off8, he8, hb8, z0, z1, z2, z3, z4, z5⟩ := rowsW (HA.out.1.keep (fun p hp => U2.out.cell hp)) ha8
        injection he8 with he8
        injection he8 with he8a he8b
        subst he8a he8b
        have hm8 : (l.map TW.w)[y]? = some a8.w := by rw [List.getElem?_map, ha8]; rfl
        have HM8 := Lib.hid hm8
        obtain ⟨sq8, hsq8⟩ : ∃ x, x = a8.w.m.sq := ⟨_, rfl⟩
        rw [← hsq8] at z1
        have HSQ8 := Lib.hid hsq8
        clear ha8 hm8 hsq8 z0 z2 z3 z4 z5
        by_cases heq : sq8 = sq0
        · have hee : (sq8 == sq0) = true := by simpa using heq
          have hv : v = false := HN.out (fun h => by
            have h9 := (HO.out.1 h).2.1
            rw [List.any_eq_false] at h9
            exact h9 sq8 (List.mem_map.2 ⟨a8.w, List.mem_of_getElem? (i := y) (by rw [List.getElem?_take, if_pos (by omega)]; exact HM8.out), HSQ8.out.symm⟩) hee)
          subst hv
          clear heq
          go_wp2_with fail
          go_quiet (fail)
          go_wp2_with fail
          go_ret
          exact ⟨by first | rfl | simp, U2.out.drewN _⟩
        have hee : (sq8 == sq0) = false := by simpa using heq
        have HNE := Lib.hid heq
        clear heq
        go_wp2_with fail
        go_quiet (fail)
        go_wp2_with fail
        go_roundg (gk - 1)
        case measure => omega
        case rel =>
          refine ⟨y + 1, by omega, by go_num, Lib.hid (fun i hi2 => ?_), Lib.hid (BS2.out.drewN _), Lib.hid (BX2.out.drewN _), Lib.hid (U2.out.drewN _)⟩
          by_cases hi3 : i < y
          · exact HD.out i hi3
          · obtain rfl : i = y := by omega
            have h9 := HM8.out
            rw [List.getD_eq_getElem?_getD, h9]
            show a8.w.m.sq ≠ sq0
            rw [← HSQ8.out]
            exact HNE.out
end Go.Proofs.Ytnaafjdnmbajjaa

/- Layer 30: inserted of the reference. -/
import Derived.Test.YtnaafjdnmbajjaaAppRQ
import Derived.Deep.RegionHeld3
import Derived.BigQuiet
import Derived.Deep.QuietTactic
namespace Go.Proofs.Ytnaafjdnmbajjaa
open Go.RowKit
set_option linter.unusedVariables false
set_option linter.unusedSimpArgs false
attribute [local go_sem ↓] run_min_plain run_max_plain
attribute [local go_sem] setCell_drewN alloc_drewN
set_option maxRecDepth 100000 in
set_option maxHeartbeats 12800000 in
theorem rins_some (bA oA : Nat) (l : List TW) (n c : Nat) (xa xs xt : Int) (xm : Bool) (xy : Int) (XB : Option Addr) (xp : List Int) (xc : Nat) (w : World) (hn : l.length = n) (hl : n ≤ 1000) (hcap : n ≤ c) (hcm : c ≤ maxLen) (hA : RowsAt w w.heap.size 6 TW.row (some ⟨bA, oA, none⟩) l) (hcp : ¬c = (l.takeWhile (befB ⟨⟨xa, ⟨xs, xt, xm, xy, xp⟩⟩, XB, xc⟩)).length) : Calls Try.prog 40 #[.slice (some ⟨bA, oA, none⟩) n c, .agg #[.int .i64 xa, .int .i64 xs, .int .i64 xt, .bool xm, .int .u8 xy, .slice XB xp.length xc]] w (RInsR l ⟨⟨xa, ⟨xs, xt, xm, xy, xp⟩⟩, XB, xc⟩ w) := by
  subst hn
  obtain ⟨w1, w2, w3, w4, w5⟩ := while_len (befB ⟨⟨xa, ⟨xs, xt, xm, xy, xp⟩⟩, XB, xc⟩) l
  generalize hp : (l.takeWhile (befB ⟨⟨xa, ⟨xs, xt, xm, xy, xp⟩⟩, XB, xc⟩)).length = p at w1 w2 w3 w4 w5 hcp
  have HA := Lib.hid hA
  have H4 := Lib.hid w4
  have H5 := Lib.hid w5
  have hins : insT l ⟨⟨xa, ⟨xs, xt, xm, xy, xp⟩⟩, XB, xc⟩ = l.take p ++ (⟨⟨xa, ⟨xs, xt, xm, xy, xp⟩⟩, XB, xc⟩ :: l.drop p) := by unfold insT; rw [← w1, ← w2]
  have HI := Lib.hid hins
  clear hA w1 w2 w4 w5 hp hins
  unfold maxLen at hcm
  have IS0 : Hid (ISt w (w.alloc (.cells #[.int .i64 xa, .int .i64 xs, .int .i64 xt, .bool xm, .int .u8 xy, .slice XB xp.length xc] 50)) [.int .i64 xa, .int .i64 xs, .int .i64 xt, .bool xm, .int .u8 xy, .slice XB xp.length xc] none 0 0 []) := Lib.hid ⟨Blk.new w _ _, (Bel.refl w).push _, Owns.nil, by simp⟩
  go_enter Try.func40, Try.ntmps40
  go_wp2_with fail
  go_loopg [5, 6] p (fun gk s5 i wr => ∃ (k : Nat) (A1 : Option Addr) (c1 : Nat), gk + k = p ∧ s5 = .slice A1 k c1 ∧ i = .int .i64 k ∧ Hid (ISt w wr [.int .i64 xa, .int .i64 xs, .int .i64 xt, .bool xm, .int .u8 xy, .slice XB xp.length xc] A1 k c1 (l.take k)))
  case atStart => exact ⟨0, none, 0, rfl, rfl, rfl, IS0⟩
  case round =>
    obtain ⟨k, A1, c1, hgk, rfl, rfl, IS⟩ := hrel
    have hi0 : (0 : Int) ≤ (k : Int) := by omega
    have hwl := IS.out.bx.lt
    have x0 := IS.out.bx.at 0 _ rfl
    have x1 := IS.out.bx.at 1 _ rfl
    have x2 := IS.out.bx.at 2 _ rfl
    have x3 := IS.out.bx.at 3 _ rfl
    have x4 := IS.out.bx.at 4 _ rfl
    have x5 := IS.out.bx.at 5 _ rfl
    by_cases hk : k < l.length
    · have hi1 : (k : Int) < (l.length : Int) := by omega
      have hd1 : decide ((k : Int) < (l.length : Int)) = true := by rw [decide_eq_true_iff]; exact hi1
      have hd2 : decide (k < l.length) = true := by rw [decide_eq_true_iff]; exact hk
      have HD1 := Lib.hid hd1
      have HD2 := Lib.hid hd2
      have hU : Below wr.heap.size wr wr := Below.refl _ _
      clear hd1 hd2
      obtain ⟨a, ha⟩ : ∃ a, l[k]? = some a := ⟨_, List.getElem?_eq_getElem hk⟩
      obtain ⟨b, off, hbo, hbB, e0, e1, e2, e3, e4, e5⟩ := rowsW (HA.out.keep (fun p hp => IS.out.u.cell hp)) ha
      injection hbo with hbo
      injection hbo with hbo1 hbo2
      subst hbo1 hbo2
      have HTK : Hid (l.take (k + 1) = l.take k ++ [a]) := Lib.hid (by rw [List.take_add_one, ha]; rfl)
      have HBF : Hid (k < p → befB ⟨⟨xa, ⟨xs, xt, xm, xy, xp⟩⟩, XB, xc⟩ a = true) := Lib.hid (fun h => H4.out k a h ha)
      have HBG : Hid (k = p → befB ⟨⟨xa, ⟨xs, xt, xm, xy, xp⟩⟩, XB, xc⟩ a = false) := Lib.hid (fun h => H5.out a (by rw [← h]; exact ha))
      obtain ⟨⟨at0, ⟨sq0, ti0, mk0, ty0, pl0⟩⟩, B0, c0⟩ := a
      simp only at e0 e1 e2 e3 e4 e5
      have hbwr : bA < wr.heap.size := by have := IS.out.u.size; omega
      clear ha
      by_cases hkp : k < p
      · have k2 := Lib.hid fun W => before_any at0 sq0 ti0 ty0 xa xs xt xy mk0 xm B0 XB pl0.length c0 xp.length xc W true (by have h9 := HBF.out hkp; unfold befB Jb.bef at h9; exact h9.symm)
        go_wp2_with fail
        refine wp_region_held_drew (S := fun w' => Below wr.heap.size wr w' ∧ w'.cell? ⟨w.heap.size, 0, none⟩ = some (.int .i64 xa) ∧ w'.cell? ⟨w.heap.size, 1, none⟩ = some (.int .i64 xs) ∧ w'.cell? ⟨w.heap.size, 2, none⟩ = some (.int .i64 xt) ∧ w'.cell? ⟨w.heap.size, 3, none⟩ = some (.bool xm) ∧ w'.cell? ⟨w.heap.size, 4, none⟩ = some (.int .u8 xy) ∧ w'.cell? ⟨w.heap.size, 5, none⟩ = some (.slice XB xp.length xc) ∧ w'.cell? ⟨bA, oA + k * 6, none⟩ = some (.int .i64 at0) ∧ w'.cell? ⟨bA, oA + k * 6 + 1, none⟩ = some (.int .i64 sq0) ∧ w'.cell? ⟨bA, oA + k * 6 + 2, none⟩ = some (.int .i64 ti0) ∧ w'.cell? ⟨bA, oA + k * 6 + 3, none⟩ = some (.bool mk0) ∧ w'.cell? ⟨bA, oA + k * 6 + 4, none⟩ = some (.int .u8 ty0) ∧ w'.cell? ⟨bA, oA + k * 6 + 5, none⟩ = some (.slice B0 pl0.length c0)) (by kernel_rfl) ?_ (fun hHeld => ?_)
        · (first | assumption | ((try go_split_ands); refine and_dep ?_ (fun hbX => ⟨cell_old hbX x0, cell_old hbX x1, cell_old hbX x2, cell_old hbX x3, cell_old hbX x4, cell_old hbX x5, cell_old hbX e0, cell_old hbX e1, cell_old hbX e2, cell_old hbX e3, cell_old hbX e4, cell_old hbX e5⟩); (with_reducible repeat first | assumption | exact below_old' (by assumption) (by assumption) | refine Below.drew ?_ | refine below_new_old ?_ _)))
        first
          | (refine tk1 (i := 0) (v := ?_) rfl (Or.inl ⟨by rfl, ?_⟩) (by assumption) ?_
             rotate_left
             · (intro w hSw; (try dsimp only at hSw); go_simp; try with_reducible rfl))
          | refine tk1 (i := 0) (v := undef) rfl (Or.inr ⟨by rfl, rfl⟩) (by assumption) ?_
        try simp only [List.getElem_toArray, List.getElem_cons_zero, List.getElem_cons_succ, Act.put, List.setIfInBounds_toArray, List.set_cons_zero, List.set_cons_succ, HD1.out, HD2.out]
        first
          | (refine tk1 (i := 1) (v := ?_) rfl (Or.inl ⟨by rfl, ?_⟩) (by assumption) ?_
             rotate_left
             · (intro w hSw; (try dsimp only at hSw); go_simp; try with_reducible rfl))
          | refine tk1 (i := 1) (v := undef) rfl (Or.inr ⟨by rfl, rfl⟩) (by assumption) ?_
        try simp only [List.getElem_toArray, List.getElem_cons_zero, List.getElem_cons_succ, Act.put, List.setIfInBounds_toArray, List.set_cons_zero, List.set_cons_succ, HD1.out, HD2.out]
        first
          | (refine tk1 (i := 2) (v := ?_) rfl (Or.inl ⟨by rfl, ?_⟩) (by assumption) ?_
             rotate_left
             · (intro w hSw; (try dsimp only at hSw); go_simp; try with_reducible rfl))
          | refine tk1 (i := 2) (v := undef) rfl (Or.inr ⟨by rfl, rfl⟩) (by assumption) ?_
        try simp only [List.getElem_toArray, List.getElem_cons_zero, List.getElem_cons_succ, Act.put, List.setIfInBounds_toArray, List.set_cons_zero, List.set_cons_succ, HD1.out, HD2.out]
        first
          | (refine tk1 (i := 3) (v := ?_) rfl (Or.inl ⟨by rfl, ?_⟩) (by assumption) ?_
             rotate_left
             · (intro w hSw; (try dsimp only at hSw); go_simp; try with_reducible rfl))
          | refine tk1 (i := 3) (v := undef) rfl (Or.inr ⟨by rfl, rfl⟩) (by assumption) ?_
        try simp only [List.getElem_toArray, List.getElem_cons_zero, List.getElem_cons_succ, Act.put, List.setIfInBounds_toArray, List.set_cons_zero, List.set_cons_succ, HD1.out, HD2.out]
        first
          | (refine tk1 (i := 4) (v := ?_) rfl (Or.inl ⟨by rfl, ?_⟩) (by assumption) ?_
             rotate_left
             · (intro w hSw; (try dsimp only at hSw); go_simp; try with_reducible rfl))
          | refine tk1 (i := 4) (v := undef) rfl (Or.inr ⟨by rfl, rfl⟩) (by assumption) ?_
        try simp only [List.getElem_toArray, List.getElem_cons_zero, List.getElem_cons_succ, Act.put, List.setIfInBounds_toArray, List.set_cons_zero, List.set_cons_succ, HD1.out, HD2.out]
        first
          | (refine tk1 (i := 5) (v := ?_) rfl (Or.inl ⟨by rfl, ?_⟩) (by assumption) ?_
             rotate_left
             · (intro w hSw; (try dsimp only at hSw); go_simp; try with_reducible rfl))
          | refine tk1 (i := 5) (v := undef) rfl (Or.inr ⟨by rfl, rfl⟩) (by assumption) ?_
        try simp only [List.getElem_toArray, List.getElem_cons_zero, List.getElem_cons_succ, Act.put, List.setIfInBounds_toArray, List.set_cons_zero, List.set_cons_succ, HD1.out, HD2.out]
        first
          | (refine tk1 (i := 6) (v := ?_) rfl (Or.inl ⟨by rfl, ?_⟩) (by assumption) ?_
             rotate_left
             · (intro w hSw; (try dsimp only at hSw); go_simp; try with_reducible rfl))
          | refine tk1 (i := 6) (v := undef) rfl (Or.inr ⟨by rfl, rfl⟩) (by assumption) ?_
        try simp only [List.getElem_toArray, List.getElem_cons_zero, List.getElem_cons_succ, Act.put, List.setIfInBounds_toArray, List.set_cons_zero, List.set_cons_succ, HD1.out, HD2.out]
        first
          | (refine tk1 (i := 7) (v := ?_) rfl (Or.inl ⟨by rfl, ?_⟩) (by assumption) ?_
             rotate_left
             · (intro w hSw; (try dsimp only at hSw); go_simp; try with_reducible rfl))
          | refine tk1 (i := 7) (v := undef) rfl (Or.inr ⟨by rfl, rfl⟩) (by assumption) ?_
        try simp only [List.getElem_toArray, List.getElem_cons_zero, List.getElem_cons_succ, Act.put, List.setIfInBounds_toArray, List.set_cons_zero, List.set_cons_succ, HD1.out, HD2.out]
        first
          | (refine tk1 (i := 8) (v := ?_) rfl (Or.inl ⟨by rfl, ?_⟩) (by assumption) ?_
             rotate_left
             · (intro w hSw; (try dsimp only at hSw); go_simp; try with_reducible rfl))
          | refine tk1 (i := 8) (v := undef) rfl (Or.inr ⟨by rfl, rfl⟩) (by assumption) ?_
        try simp only [List.getElem_toArray, List.getElem_cons_zero, List.getElem_cons_succ, Act.put, List.setIfInBounds_toArray, List.set_cons_zero, List.set_cons_succ, HD1.out, HD2.out]
        first
          | (refine tk1 (i := 9) (v := ?_) rfl (Or.inl ⟨by rfl, ?_⟩) (by assumption) ?_
             rotate_left
             · (intro w hSw; (try dsimp only at hSw); go_simp; try with_reducible rfl))
          | refine tk1 (i := 9) (v := undef) rfl (Or.inr ⟨by rfl, rfl⟩) (by assumption) ?_
        try simp only [List.getElem_toArray, List.getElem_cons_zero, List.getElem_cons_succ, Act.put, List.setIfInBounds_toArray, List.set_cons_zero, List.set_cons_succ, HD1.out, HD2.out]
        refine wpAnyH_ready (rs := [10]) (by kernel_rfl) (by simp) ?_
        refine AllReadyH.cons (o := _) rfl (fun K hK => ?_) ?_
        rotate_left
        · exact AllReadyH.nil
        go_simp
        (go_at_call 55; refine (k2.out _).mono ?_; rintro e w' ⟨rfl, hbel⟩; have hbw : Below wr.heap.size wr w' := below_old' hbel (by (try go_split_ands); assumption); obtain ⟨hcc, hff⟩ := bcell hbel)
        refine hK.out _ _ ?_ (fun hHeld => ?_)
        · (try dsimp only)
          (first | assumption | ((try go_split_ands); refine and_dep ?_ (fun hbX => ⟨cell_old hbX x0, cell_old hbX x1, cell_old hbX x2, cell_old hbX x3, cell_old hbX x4, cell_old hbX x5, cell_old hbX e0, cell_old hbX e1, cell_old hbX e2, cell_old hbX e3, cell_old hbX e4, cell_old hbX e5⟩); (with_reducible repeat first | assumption | exact below_old' (by assumption) (by assumption) | refine Below.drew ?_ | refine below_new_old ?_ _)))
        clear hK K
        try simp only [List.getElem_toArray, List.getElem_cons_zero, List.getElem_cons_succ, Act.put, List.setIfInBounds_toArray, List.set_cons_zero, List.set_cons_succ, HD1.out, HD2.out]
        first
          | (refine tk1 (i := 11) (v := ?_) rfl (Or.inl ⟨by rfl, ?_⟩) (by assumption) ?_
             rotate_left
             · (intro w hSw; (try dsimp only at hSw); go_simp; try with_reducible rfl))
          | refine tk1 (i := 11) (v := undef) rfl (Or.inr ⟨by rfl, rfl⟩) (by assumption) ?_
        try simp only [List.getElem_toArray, List.getElem_cons_zero, List.getElem_cons_succ, Act.put, List.setIfInBounds_toArray, List.set_cons_zero, List.set_cons_succ, HD1.out, HD2.out]
        refine wpAnyH_done (by kernel_rfl) ?_ _
        all_goals
          have IS2 := Lib.hid (IS.out.later hbw)
          have f0 := cell_old hbw e0
          have f1 := cell_old hbw e1
          have f2 := cell_old hbw e2
          have f3 := cell_old hbw e3
          have f4 := cell_old hbw e4
          have f5 := cell_old hbw e5
          clear hcc hff hbel e0 e1 e2 e3 e4 e5 x0 x1 x2 x3 x4 x5 hU
          have hbwe : bA < w'.heap.size := Nat.lt_of_lt_of_le hbwr hbw.size
          go_wp2_with (at_builtin; go_loud (refine wpList_append_at rfl _ _ 24 rfl (w.heap.size + 1) 50 6 56 (.agg #[.int .i64 0, .int .i64 0, .int .i64 0, .bool false, .int .u8 0, .slice none 0 0]) Try.underlying24 info_w rfl (by decide) A1 k c1 _ rfl IS2.out.own [.int .i64 at0, .int .i64 sq0, .int .i64 ti0, .bool mk0, .int .u8 ty0, .slice B0 pl0.length c0] rfl (by simp [Value.oneCell']) rfl (by unfold maxLen; omega) (by omega) IS2.out.hB ?_); intro An cn wn hown hgr hat)
          go_wp2_with fail
          go_roundg (gk - 1)
          case measure => omega
          case rel =>
            refine ⟨k + 1, An, cn, by omega, rfl, by go_num, Lib.hid ?_⟩
            rw [HTK.out]
            exact IS2.out.one (l2 := [_]) (by simpa [TW.row] using hown) hgr
      · obtain rfl : k = p := by omega
        have HCUT : Hid (RowsAt w w.heap.size 6 TW.row (some ⟨bA, oA + k * 6, none⟩) (l.drop k)) := Lib.hid (RowsAt.drop HA.out k)
        have k2 := Lib.hid fun W => before_any at0 sq0 ti0 ty0 xa xs xt xy mk0 xm B0 XB pl0.length c0 xp.length xc W false (by have h9 := HBG.out rfl; unfold befB Jb.bef at h9; exact h9.symm)
        go_wp2_with fail
        refine wp_region_held_drew (S := fun w' => Below wr.heap.size wr w' ∧ w'.cell? ⟨w.heap.size, 0, none⟩ = some (.int .i64 xa) ∧ w'.cell? ⟨w.heap.size, 1, none⟩ = some (.int .i64 xs) ∧ w'.cell? ⟨w.heap.size, 2, none⟩ = some (.int .i64 xt) ∧ w'.cell? ⟨w.heap.size, 3, none⟩ = some (.bool xm) ∧ w'.cell? ⟨w.heap.size, 4, none⟩ = some (.int .u8 xy) ∧ w'.cell? ⟨w.heap.size, 5, none⟩ = some (.slice XB xp.length xc) ∧ w'.cell? ⟨bA, oA + k * 6, none⟩ = some (.int .i64 at0) ∧ w'.cell? ⟨bA, oA + k * 6 + 1, none⟩ = some (.int .i64 sq0) ∧ w'.cell? ⟨bA, oA + k * 6 + 2, none⟩ = some (.int .i64 ti0) ∧ w'.cell? ⟨bA, oA + k * 6 + 3, none⟩ = some (.bool mk0) ∧ w'.cell? ⟨bA, oA + k * 6 + 4, none⟩ = some (.int .u8 ty0) ∧ w'.cell? ⟨bA, oA + k * 6 + 5, none⟩ = some (.slice B0 pl0.length c0)) (by kernel_rfl) ?_ (fun hHeld => ?_)
        · (first | assumption | ((try go_split_ands); refine and_dep ?_ (fun hbX => ⟨cell_old hbX x0, cell_old hbX x1, cell_old hbX x2, cell_old hbX x3, cell_old hbX x4, cell_old hbX x5, cell_old hbX e0, cell_old hbX e1, cell_old hbX e2, cell_old hbX e3, cell_old hbX e4, cell_old hbX e5⟩); (with_reducible repeat first | assumption | exact below_old' (by assumption) (by assumption) | refine Below.drew ?_ | refine below_new_old ?_ _)))
        first
          | (refine tk1 (i := 0) (v := ?_) rfl (Or.inl ⟨by rfl, ?_⟩) (by assumption) ?_
             rotate_left
             · (intro w hSw; (try dsimp only at hSw); go_simp; try with_reducible rfl))
          | refine tk1 (i := 0) (v := undef) rfl (Or.inr ⟨by rfl, rfl⟩) (by assumption) ?_
        try simp only [List.getElem_toArray, List.getElem_cons_zero, List.getElem_cons_succ, Act.put, List.setIfInBounds_toArray, List.set_cons_zero, List.set_cons_succ, HD1.out, HD2.out]
        first
          | (refine tk1 (i := 1) (v := ?_) rfl (Or.inl ⟨by rfl, ?_⟩) (by assumption) ?_
             rotate_left
             · (intro w hSw; (try dsimp only at hSw); go_simp; try with_reducible rfl))
          | refine tk1 (i := 1) (v := undef) rfl (Or.inr ⟨by rfl, rfl⟩) (by assumption) ?_
        try simp only [List.getElem_toArray, List.getElem_cons_zero, List.getElem_cons_succ, Act.put, List.setIfInBounds_toArray, List.set_cons_zero, List.set_cons_succ, HD1.out, HD2.out]
        first
          | (refine tk1 (i := 2) (v := ?_) rfl (Or.inl ⟨by rfl, ?_⟩) (by assumption) ?_
             rotate_left
             · (intro w hSw; (try dsimp only at hSw); go_simp; try with_reducible rfl))
          | refine tk1 (i := 2) (v := undef) rfl (Or.inr ⟨by rfl, rfl⟩) (by assumption) ?_
        try simp only [List.getElem_toArray, List.getElem_cons_zero, List.getElem_cons_succ, Act.put, List.setIfInBounds_toArray, List.set_cons_zero, List.set_cons_succ, HD1.out, HD2.out]
        first
          | (refine tk1 (i := 3) (v := ?_) rfl (Or.inl ⟨by rfl, ?_⟩) (by assumption) ?_
             rotate_left
             · (intro w hSw; (try dsimp only at hSw); go_simp; try with_reducible rfl))
          | refine tk1 (i := 3) (v := undef) rfl (Or.inr ⟨by rfl, rfl⟩) (by assumption) ?_
        try simp only [List.getElem_toArray, List.getElem_cons_zero, List.getElem_cons_succ, Act.put, List.setIfInBounds_toArray, List.set_cons_zero, List.set_cons_succ, HD1.out, HD2.out]
        first
          | (refine tk1 (i := 4) (v := ?_) rfl (Or.inl ⟨by rfl, ?_⟩) (by assumption) ?_
             rotate_left
             · (intro w hSw; (try dsimp only at hSw); go_simp; try with_reducible rfl))
          | refine tk1 (i := 4) (v := undef) rfl (Or.inr ⟨by rfl, rfl⟩) (by assumption) ?_
        try simp only [List.getElem_toArray, List.getElem_cons_zero, List.getElem_cons_succ, Act.put, List.setIfInBounds_toArray, List.set_cons_zero, List.set_cons_succ, HD1.out, HD2.out]
        first
          | (refine tk1 (i := 5) (v := ?_) rfl (Or.inl ⟨by rfl, ?_⟩) (by assumption) ?_
             rotate_left
             · (intro w hSw; (try dsimp only at hSw); go_simp; try with_reducible rfl))
          | refine tk1 (i := 5) (v := undef) rfl (Or.inr ⟨by rfl, rfl⟩) (by assumption) ?_
        try simp only [List.getElem_toArray, List.getElem_cons_zero, List.getElem_cons_succ, Act.put, List.setIfInBounds_toArray, List.set_cons_zero, List.set_cons_succ, HD1.out, HD2.out]
        first
          | (refine tk1 (i := 6) (v := ?_) rfl (Or.inl ⟨by rfl, ?_⟩) (by assumption) ?_
             rotate_left
             · (intro w hSw; (try dsimp only at hSw); go_simp; try with_reducible rfl))
          | refine tk1 (i := 6) (v := undef) rfl (Or.inr ⟨by rfl, rfl⟩) (by assumption) ?_
        try simp only [List.getElem_toArray, List.getElem_cons_zero, List.getElem_cons_succ, Act.put, List.setIfInBounds_toArray, List.set_cons_zero, List.set_cons_succ, HD1.out, HD2.out]
        first
          | (refine tk1 (i := 7) (v := ?_) rfl (Or.inl ⟨by rfl, ?_⟩) (by assumption) ?_
             rotate_left
             · (intro w hSw; (try dsimp only at hSw); go_simp; try with_reducible rfl))
          | refine tk1 (i := 7) (v := undef) rfl (Or.inr ⟨by rfl, rfl⟩) (by assumption) ?_
        try simp only [List.getElem_toArray, List.getElem_cons_zero, List.getElem_cons_succ, Act.put, List.setIfInBounds_toArray, List.set_cons_zero, List.set_cons_succ, HD1.out, HD2.out]
        first
          | (refine tk1 (i := 8) (v := ?_) rfl (Or.inl ⟨by rfl, ?_⟩) (by assumption) ?_
             rotate_left
             · (intro w hSw; (try dsimp only at hSw); go_simp; try with_reducible rfl))
          | refine tk1 (i := 8) (v := undef) rfl (Or.inr ⟨by rfl, rfl⟩) (by assumption) ?_
        try simp only [List.getElem_toArray, List.getElem_cons_zero, List.getElem_cons_succ, Act.put, List.setIfInBounds_toArray, List.set_cons_zero, List.set_cons_succ, HD1.out, HD2.out]
        first
          | (refine tk1 (i := 9) (v := ?_) rfl (Or.inl ⟨by rfl, ?_⟩) (by assumption) ?_
             rotate_left
             · (intro w hSw; (try dsimp only at hSw); go_simp; try with_reducible rfl))
          | refine tk1 (i := 9) (v := undef) rfl (Or.inr ⟨by rfl, rfl⟩) (by assumption) ?_
        try simp only [List.getElem_toArray, List.getElem_cons_zero, List.getElem_cons_succ, Act.put, List.setIfInBounds_toArray, List.set_cons_zero, List.set_cons_succ, HD1.out, HD2.out]
        refine wpAnyH_ready (rs := [10]) (by kernel_rfl) (by simp) ?_
        refine AllReadyH.cons (o := _) rfl (fun K hK => ?_) ?_
        rotate_left
        · exact AllReadyH.nil
        go_simp
        (go_at_call 55; refine (k2.out _).mono ?_; rintro e w' ⟨rfl, hbel⟩; have hbw : Below wr.heap.size wr w' := below_old' hbel (by (try go_split_ands); assumption); obtain ⟨hcc, hff⟩ := bcell hbel)
        refine hK.out _ _ ?_ (fun hHeld => ?_)
        · (try dsimp only)
          (first | assumption | ((try go_split_ands); refine and_dep ?_ (fun hbX => ⟨cell_old hbX x0, cell_old hbX x1, cell_old hbX x2, cell_old hbX x3, cell_old hbX x4, cell_old hbX x5, cell_old hbX e0, cell_old hbX e1, cell_old hbX e2, cell_old hbX e3, cell_old hbX e4, cell_old hbX e5⟩); (with_reducible repeat first | assumption | exact below_old' (by assumption) (by assumption) | refine Below.drew ?_ | refine below_new_old ?_ _)))
        clear hK K
        try simp only [List.getElem_toArray, List.getElem_cons_zero, List.getElem_cons_succ, Act.put, List.setIfInBounds_toArray, List.set_cons_zero, List.set_cons_succ, HD1.out, HD2.out]
        first
          | (refine tk1 (i := 11) (v := ?_) rfl (Or.inl ⟨by rfl, ?_⟩) (by assumption) ?_
             rotate_left
             · (intro w hSw; (try dsimp only at hSw); go_simp; try with_reducible rfl))
          | refine tk1 (i := 11) (v := undef) rfl (Or.inr ⟨by rfl, rfl⟩) (by assumption) ?_
        try simp only [List.getElem_toArray, List.getElem_cons_zero, List.getElem_cons_succ, Act.put, List.setIfInBounds_toArray, List.set_cons_zero, List.set_cons_succ, HD1.out, HD2.out]
        refine wpAnyH_done (by kernel_rfl) ?_ _
        all_goals
          have IS2 := IS.out.later hbw
          clear hcc hff hbel e0 e1 e2 e3 e4 e5 x0 x1 x2 x3 x4 x5 hU
          have hxl := IS2.bx.lt
          have y0 := IS2.bx.at 0 _ rfl
          have y1 := IS2.bx.at 1 _ rfl
          have y2 := IS2.bx.at 2 _ rfl
          have y3 := IS2.bx.at 3 _ rfl
          have y4 := IS2.bx.at 4 _ rfl
          have y5 := IS2.bx.at 5 _ rfl
          have IS9 := Lib.hid IS2
          go_upto_region 7 with fail
          have h5 : ((k : Nat) + 1) * 56 ≤ 140737488355328 := by omega
          have h6 : k + 1 ≤ maxLen := by unfold maxLen; omega
          have h7 := IS9.out.hB
          have HX := Lib.hid IS9.out.own
          go_upto_region 8 with (at_builtin; go_loud (refine wpList_append_at (w0 := w') rfl _ _ 24 rfl (w.heap.size + 1) 50 6 56 _ Try.underlying24 info_w rfl (by decide) A1 k c1 _ rfl HX.out [.int .i64 xa, .int .i64 xs, .int .i64 xt, .bool xm, .int .u8 xy, .slice XB xp.length xc] rfl (by simp [Value.oneCell']) rfl h6 h5 h7 ?_); intro A2 c2 wn hown hgr hat)
          have IS10 := Lib.hid (IS9.out.one (l2 := [⟨⟨xa, ⟨xs, xt, xm, xy, xp⟩⟩, XB, xc⟩]) (by simpa [TW.row] using hown) hgr)
          clear hown hgr hat y0 y1 y2 y3 y4 y5
          go_wp2_with (at_builtin; go_loud (refine wpList_append_rows rfl _ _ 24 rfl (w.heap.size + 1) 50 6 56 (.agg #[.int .i64 0, .int .i64 0, .int .i64 0, .bool false, .int .u8 0, .slice none 0 0]) Try.underlying24 info_w rfl (by decide) A2 (k + 1) c2 _ rfl IS10.out.own w.heap.size TW.row row_sixW row_oneW _ _ _ (l.drop k) rfl (RowsAt.keep HCUT.out (fun p hp => IS10.out.u.cell hp)) (by simp) (by unfold maxLen; simp <;> omega) (by simp <;> omega) IS10.out.hB (l.length + 1) (by simp <;> omega) ?_); intro A3 c3 wm hown hgr hat)
          have IS11 := IS10.out.one (l2 := l.drop k) hown hgr
          go_wp2_with fail
          go_ret
          exact ⟨A3, c3, rfl, by rw [HI.out]; simpa using IS11.own, IS11.u⟩
    have hi2 : (l.length : Int) ≤ (k : Int) := by omega
    obtain rfl : k = p := by omega
    have HCUT : Hid (RowsAt w w.heap.size 6 TW.row (some ⟨bA, oA + k * 6, none⟩) (l.drop k)) := Lib.hid (RowsAt.drop HA.out k)
    have hd1 : decide ((k : Int) < (l.length : Int)) = false := by rw [decide_eq_false_iff_not]; omega
    have hd2 : decide (k < l.length) = false := by rw [decide_eq_false_iff_not]; exact hk
    go_wp2_with fail
    go_quiet (fail)
    have IS2 := IS.out.drewN nq
    clear hd1 hd2
    have hxl := IS2.bx.lt
    have y0 := IS2.bx.at 0 _ rfl
    have y1 := IS2.bx.at 1 _ rfl
    have y2 := IS2.bx.at 2 _ rfl
    have y3 := IS2.bx.at 3 _ rfl
    have y4 := IS2.bx.at 4 _ rfl
    have y5 := IS2.bx.at 5 _ rfl
    have IS9 := Lib.hid IS2
    go_upto_region 7 with fail
    have h5 : ((k : Nat) + 1) * 56 ≤ 140737488355328 := by omega
    have h6 : k + 1 ≤ maxLen := by unfold maxLen; omega
    have h7 := IS9.out.hB
    have HX := Lib.hid IS9.out.own
    go_upto_region 8 with (at_builtin; go_loud (refine wpList_append_at (w0 := World.drewN wr nq) rfl _ _ 24 rfl (w.heap.size + 1) 50 6 56 _ Try.underlying24 info_w rfl (by decide) A1 k c1 _ rfl HX.out [.int .i64 xa, .int .i64 xs, .int .i64 xt, .bool xm, .int .u8 xy, .slice XB xp.length xc] rfl (by simp [Value.oneCell']) rfl h6 h5 h7 ?_); intro A2 c2 wn hown hgr hat)
    have IS10 := Lib.hid (IS9.out.one (l2 := [⟨⟨xa, ⟨xs, xt, xm, xy, xp⟩⟩, XB, xc⟩]) (by simpa [TW.row] using hown) hgr)
    clear hown hgr hat y0 y1 y2 y3 y4 y5
    go_wp2_with (at_builtin; go_loud (refine wpList_append_rows rfl _ _ 24 rfl (w.heap.size + 1) 50 6 56 (.agg #[.int .i64 0, .int .i64 0, .int .i64 0, .bool false, .int .u8 0, .slice none 0 0]) Try.underlying24 info_w rfl (by decide) A2 (k + 1) c2 _ rfl IS10.out.own w.heap.size TW.row row_sixW row_oneW _ _ _ (l.drop k) rfl (RowsAt.keep HCUT.out (fun p hp => IS10.out.u.cell hp)) (by simp) (by unfold maxLen; simp <;> omega) (by simp <;> omega) IS10.out.hB (l.length + 1) (by simp <;> omega) ?_); intro A3 c3 wm hown hgr hat)
    have IS11 := IS10.out.one (l2 := l.drop k) hown hgr
    go_wp2_with fail
    go_ret
    exact ⟨A3, c3, rfl, by rw [HI.out]; simpa using IS11.own, IS11.u⟩
set_option maxRecDepth 100000 in
set_option maxHeartbeats 12800000 in
theorem rins_end (bA oA : Nat) (l : List TW) (n c : Nat) (xa xs xt : Int) (xm : Bool) (xy : Int) (XB : Option Addr) (xp : List Int) (xc : Nat) (w : World) (hn : l.length = n) (hl : n ≤ 1000) (hcap : n ≤ c) (hcm : c ≤ maxLen) (hA : RowsAt w w.heap.size 6 TW.row (some ⟨bA, oA, none⟩) l) (hcp : c ≤ (l.takeWhile (befB ⟨⟨xa, ⟨xs, xt, xm, xy, xp⟩⟩, XB, xc⟩)).length) : Calls Try.prog 40 #[.slice (some ⟨bA, oA, none⟩) n c, .agg #[.int .i64 xa, .int .i64 xs, .int .i64 xt, .bool xm, .int .u8 xy, .slice XB xp.length xc]] w (RInsR l ⟨⟨xa, ⟨xs, xt, xm, xy, xp⟩⟩, XB, xc⟩ w) := by
  subst hn
  obtain ⟨w1, w2, w3, w4, w5⟩ := while_len (befB ⟨⟨xa, ⟨xs, xt, xm, xy, xp⟩⟩, XB, xc⟩) l
  generalize hp : (l.takeWhile (befB ⟨⟨xa, ⟨xs, xt, xm, xy, xp⟩⟩, XB, xc⟩)).length = p at w1 w2 w3 w4 w5 hcp
  have HA := Lib.hid hA
  have H4 := Lib.hid w4
  have H5 := Lib.hid w5
  have hins : insT l ⟨⟨xa, ⟨xs, xt, xm, xy, xp⟩⟩, XB, xc⟩ = l.take p ++ (⟨⟨xa, ⟨xs, xt, xm, xy, xp⟩⟩, XB, xc⟩ :: l.drop p) := by unfold insT; rw [← w1, ← w2]
  have HI := Lib.hid hins
  clear hA w1 w2 w4 w5 hp hins
  unfold maxLen at hcm
  have IS0 : Hid (ISt w (w.alloc (.cells #[.int .i64 xa, .int .i64 xs, .int .i64 xt, .bool xm, .int .u8 xy, .slice XB xp.length xc] 50)) [.int .i64 xa, .int .i64 xs, .int .i64 xt, .bool xm, .int .u8 xy, .slice XB xp.length xc] none 0 0 []) := Lib.hid ⟨Blk.new w _ _, (Bel.refl w).push _, Owns.nil, by simp⟩
  go_enter Try.func40, Try.ntmps40
  go_wp2_with fail
  go_loopg [5, 6] p (fun gk s5 i wr => ∃ (k : Nat) (A1 : Option Addr) (c1 : Nat), gk + k = p ∧ s5 = .slice A1 k c1 ∧ i = .int .i64 k ∧ Hid (ISt w wr [.int .i64 xa, .int .i64 xs, .int .i64 xt, .bool xm, .int .u8 xy, .slice XB xp.length xc] A1 k c1 (l.take k)))
  case atStart => exact ⟨0, none, 0, rfl, rfl, rfl, IS0⟩
  case round =>
    obtain ⟨k, A1, c1, hgk, rfl, rfl, IS⟩ := hrel
    have hi0 : (0 : Int) ≤ (k : Int) := by omega
    have hwl := IS.out.bx.lt
    have x0 := IS.out.bx.at 0 _ rfl
    have x1 := IS.out.bx.at 1 _ rfl
    have x2 := IS.out.bx.at 2 _ rfl
    have x3 := IS.out.bx.at 3 _ rfl
    have x4 := IS.out.bx.at 4 _ rfl
    have x5 := IS.out.bx.at 5 _ rfl
    by_cases hk : k < l.length
    · have hi1 : (k : Int) < (l.length : Int) := by omega
      have hd1 : decide ((k : Int) < (l.length : Int)) = true := by rw [decide_eq_true_iff]; exact hi1
      have hd2 : decide (k < l.length) = true := by rw [decide_eq_true_iff]; exact hk
      have HD1 := Lib.hid hd1
      have HD2 := Lib.hid hd2
      have hU : Below wr.heap.size wr wr := Below.refl _ _
      clear hd1 hd2
      obtain ⟨a, ha⟩ : ∃ a, l[k]? = some a := ⟨_, List.getElem?_eq_getElem hk⟩
      obtain ⟨b, off, hbo, hbB, e0, e1, e2, e3, e4, e5⟩ := rowsW (HA.out.keep (fun p hp => IS.out.u.cell hp)) ha
      injection hbo with hbo
      injection hbo with hbo1 hbo2
      subst hbo1 hbo2
      have HTK : Hid (l.take (k + 1) = l.take k ++ [a]) := Lib.hid (by rw [List.take_add_one, ha]; rfl)
      have HBF : Hid (k < p → befB ⟨⟨xa, ⟨xs, xt, xm, xy, xp⟩⟩, XB, xc⟩ a = true) := Lib.hid (fun h => H4.out k a h ha)
      have HBG : Hid (k = p → befB ⟨⟨xa, ⟨xs, xt, xm, xy, xp⟩⟩, XB, xc⟩ a = false) := Lib.hid (fun h => H5.out a (by rw [← h]; exact ha))
      obtain ⟨⟨at0, ⟨sq0, ti0, mk0, ty0, pl0⟩⟩, B0, c0⟩ := a
      simp only at e0 e1 e2 e3 e4 e5
      have hbwr : bA < wr.heap.size := by have := IS.out.u.size; omega
      clear ha
      by_cases hkp : k < p
      · have k2 := Lib.hid fun W => before_any at0 sq0 ti0 ty0 xa xs xt xy mk0 xm B0 XB pl0.length c0 xp.length xc W true (by have h9 := HBF.out hkp; unfold befB Jb.bef at h9; exact h9.symm)
        go_wp2_with fail
        refine wp_region_held_drew (S := fun w' => Below wr.heap.size wr w' ∧ w'.cell? ⟨w.heap.size, 0, none⟩ = some (.int .i64 xa) ∧ w'.cell? ⟨w.heap.size, 1, none⟩ = some (.int .i64 xs) ∧ w'.cell? ⟨w.heap.size, 2, none⟩ = some (.int .i64 xt) ∧ w'.cell? ⟨w.heap.size, 3, none⟩ = some (.bool xm) ∧ w'.cell? ⟨w.heap.size, 4, none⟩ = some (.int .u8 xy) ∧ w'.cell? ⟨w.heap.size, 5, none⟩ = some (.slice XB xp.length xc) ∧ w'.cell? ⟨bA, oA + k * 6, none⟩ = some (.int .i64 at0) ∧ w'.cell? ⟨bA, oA + k * 6 + 1, none⟩ = some (.int .i64 sq0) ∧ w'.cell? ⟨bA, oA + k * 6 + 2, none⟩ = some (.int .i64 ti0) ∧ w'.cell? ⟨bA, oA + k * 6 + 3, none⟩ = some (.bool mk0) ∧ w'.cell? ⟨bA, oA + k * 6 + 4, none⟩ = some (.int .u8 ty0) ∧ w'.cell? ⟨bA, oA + k * 6 + 5, none⟩ = some (.slice B0 pl0.length c0)) (by kernel_rfl) ?_ (fun hHeld => ?_)
        · (first | assumption | ((try go_split_ands); refine and_dep ?_ (fun hbX => ⟨cell_old hbX x0, cell_old hbX x1, cell_old hbX x2, cell_old hbX x3, cell_old hbX x4, cell_old hbX x5, cell_old hbX e0, cell_old hbX e1, cell_old hbX e2, cell_old hbX e3, cell_old hbX e4, cell_old hbX e5⟩); (with_reducible repeat first | assumption | exact below_old' (by assumption) (by assumption) | refine Below.drew ?_ | refine below_new_old ?_ _)))
        first
          | (refine tk1 (i := 0) (v := ?_) rfl (Or.inl ⟨by rfl, ?_⟩) (by assumption) ?_
             rotate_left
             · (intro w hSw; (try dsimp only at hSw); go_simp; try with_reducible rfl))
          | refine tk1 (i := 0) (v := undef) rfl (Or.inr ⟨by rfl, rfl⟩) (by assumption) ?_
        try simp only [List.getElem_toArray, List.getElem_cons_zero, List.getElem_cons_succ, Act.put, List.setIfInBounds_toArray, List.set_cons_zero, List.set_cons_succ, HD1.out, HD2.out]
        first
          | (refine tk1 (i := 1) (v := ?_) rfl (Or.inl ⟨by rfl, ?_⟩) (by assumption) ?_
             rotate_left
             · (intro w hSw; (try dsimp only at hSw); go_simp; try with_reducible rfl))
          | refine tk1 (i := 1) (v := undef) rfl (Or.inr ⟨by rfl, rfl⟩) (by assumption) ?_
        try simp only [List.getElem_toArray, List.getElem_cons_zero, List.getElem_cons_succ, Act.put, List.setIfInBounds_toArray, List.set_cons_zero, List.set_cons_succ, HD1.out, HD2.out]
        first
          | (refine tk1 (i := 2) (v := ?_) rfl (Or.inl ⟨by rfl, ?_⟩) (by assumption) ?_
             rotate_left
             · (intro w hSw; (try dsimp only at hSw); go_simp; try with_reducible rfl))
          | refine tk1 (i := 2) (v := undef) rfl (Or.inr ⟨by rfl, rfl⟩) (by assumption) ?_
        try simp only [List.getElem_toArray, List.getElem_cons_zero, List.getElem_cons_succ, Act.put, List.setIfInBounds_toArray, List.set_cons_zero, List.set_cons_succ, HD1.out, HD2.out]
        first
          | (refine tk1 (i := 3) (v := ?_) rfl (Or.inl ⟨by rfl, ?_⟩) (by assumption) ?_
             rotate_left
             · (intro w hSw; (try dsimp only at hSw); go_simp; try with_reducible rfl))
          | refine tk1 (i := 3) (v := undef) rfl (Or.inr ⟨by rfl, rfl⟩) (by assumption) ?_
        try simp only [List.getElem_toArray, List.getElem_cons_zero, List.getElem_cons_succ, Act.put, List.setIfInBounds_toArray, List.set_cons_zero, List.set_cons_succ, HD1.out, HD2.out]
        first
          | (refine tk1 (i := 4) (v := ?_) rfl (Or.inl ⟨by rfl, ?_⟩) (by assumption) ?_
             rotate_left
             · (intro w hSw; (try dsimp only at hSw); go_simp; try with_reducible rfl))
          | refine tk1 (i := 4) (v := undef) rfl (Or.inr ⟨by rfl, rfl⟩) (by assumption) ?_
        try simp only [List.getElem_toArray, List.getElem_cons_zero, List.getElem_cons_succ, Act.put, List.setIfInBounds_toArray, List.set_cons_zero, List.set_cons_succ, HD1.out, HD2.out]
        first
          | (refine tk1 (i := 5) (v := ?_) rfl (Or.inl ⟨by rfl, ?_⟩) (by assumption) ?_
             rotate_left
             · (intro w hSw; (try dsimp only at hSw); go_simp; try with_reducible rfl))
          | refine tk1 (i := 5) (v := undef) rfl (Or.inr ⟨by rfl, rfl⟩) (by assumption) ?_
        try simp only [List.getElem_toArray, List.getElem_cons_zero, List.getElem_cons_succ, Act.put, List.setIfInBounds_toArray, List.set_cons_zero, List.set_cons_succ, HD1.out, HD2.out]
        first
          | (refine tk1 (i := 6) (v := ?_) rfl (Or.inl ⟨by rfl, ?_⟩) (by assumption) ?_
             rotate_left
             · (intro w hSw; (try dsimp only at hSw); go_simp; try with_reducible rfl))
          | refine tk1 (i := 6) (v := undef) rfl (Or.inr ⟨by rfl, rfl⟩) (by assumption) ?_
        try simp only [List.getElem_toArray, List.getElem_cons_zero, List.getElem_cons_succ, Act.put, List.setIfInBounds_toArray, List.set_cons_zero, List.set_cons_succ, HD1.out, HD2.out]
        first
          | (refine tk1 (i := 7) (v := ?_) rfl (Or.inl ⟨by rfl, ?_⟩) (by assumption) ?_
             rotate_left
             · (intro w hSw; (try dsimp only at hSw); go_simp; try with_reducible rfl))
          | refine tk1 (i := 7) (v := undef) rfl (Or.inr ⟨by rfl, rfl⟩) (by assumption) ?_
        try simp only [List.getElem_toArray, List.getElem_cons_zero, List.getElem_cons_succ, Act.put, List.setIfInBounds_toArray, List.set_cons_zero, List.set_cons_succ, HD1.out, HD2.out]
        first
          | (refine tk1 (i := 8) (v := ?_) rfl (Or.inl ⟨by rfl, ?_⟩) (by assumption) ?_
             rotate_left
             · (intro w hSw; (try dsimp only at hSw); go_simp; try with_reducible rfl))
          | refine tk1 (i := 8) (v := undef) rfl (Or.inr ⟨by rfl, rfl⟩) (by assumption) ?_
        try simp only [List.getElem_toArray, List.getElem_cons_zero, List.getElem_cons_succ, Act.put, List.setIfInBounds_toArray, List.set_cons_zero, List.set_cons_succ, HD1.out, HD2.out]
        first
          | (refine tk1 (i := 9) (v := ?_) rfl (Or.inl ⟨by rfl, ?_⟩) (by assumption) ?_
             rotate_left
             · (intro w hSw; (try dsimp only at hSw); go_simp; try with_reducible rfl))
          | refine tk1 (i := 9) (v := undef) rfl (Or.inr ⟨by rfl, rfl⟩) (by assumption) ?_
        try simp only [List.getElem_toArray, List.getElem_cons_zero, List.getElem_cons_succ, Act.put, List.setIfInBounds_toArray, List.set_cons_zero, List.set_cons_succ, HD1.out, HD2.out]
        refine wpAnyH_ready (rs := [10]) (by kernel_rfl) (by simp) ?_
        refine AllReadyH.cons (o := _) rfl (fun K hK => ?_) ?_
        rotate_left
        · exact AllReadyH.nil
        go_simp
        (go_at_call 55; refine (k2.out _).mono ?_; rintro e w' ⟨rfl, hbel⟩; have hbw : Below wr.heap.size wr w' := below_old' hbel (by (try go_split_ands); assumption); obtain ⟨hcc, hff⟩ := bcell hbel)
        refine hK.out _ _ ?_ (fun hHeld => ?_)
        · (try dsimp only)
          (first | assumption | ((try go_split_ands); refine and_dep ?_ (fun hbX => ⟨cell_old hbX x0, cell_old hbX x1, cell_old hbX x2, cell_old hbX x3, cell_old hbX x4, cell_old hbX x5, cell_old hbX e0, cell_old hbX e1, cell_old hbX e2, cell_old hbX e3, cell_old hbX e4, cell_old hbX e5⟩); (with_reducible repeat first | assumption | exact below_old' (by assumption) (by assumption) | refine Below.drew ?_ | refine below_new_old ?_ _)))
        clear hK K
        try simp only [List.getElem_toArray, List.getElem_cons_zero, List.getElem_cons_succ, Act.put, List.setIfInBounds_toArray, List.set_cons_zero, List.set_cons_succ, HD1.out, HD2.out]
        first
          | (refine tk1 (i := 11) (v := ?_) rfl (Or.inl ⟨by rfl, ?_⟩) (by assumption) ?_
             rotate_left
             · (intro w hSw; (try dsimp only at hSw); go_simp; try with_reducible rfl))
          | refine tk1 (i := 11) (v := undef) rfl (Or.inr ⟨by rfl, rfl⟩) (by assumption) ?_
        try simp only [List.getElem_toArray, List.getElem_cons_zero, List.getElem_cons_succ, Act.put, List.setIfInBounds_toArray, List.set_cons_zero, List.set_cons_succ, HD1.out, HD2.out]
        refine wpAnyH_done (by kernel_rfl) ?_ _
        all_goals
          have IS2 := Lib.hid (IS.out.later hbw)
          have f0 := cell_old hbw e0
          have f1 := cell_old hbw e1
          have f2 := cell_old hbw e2
          have f3 := cell_old hbw e3
          have f4 := cell_old hbw e4
          have f5 := cell_old hbw e5
          clear hcc hff hbel e0 e1 e2 e3 e4 e5 x0 x1 x2 x3 x4 x5 hU
          have hbwe : bA < w'.heap.size := Nat.lt_of_lt_of_le hbwr hbw.size
          go_wp2_with (at_builtin; go_loud (refine wpList_append_at rfl _ _ 24 rfl (w.heap.size + 1) 50 6 56 (.agg #[.int .i64 0, .int .i64 0, .int .i64 0, .bool false, .int .u8 0, .slice none 0 0]) Try.underlying24 info_w rfl (by decide) A1 k c1 _ rfl IS2.out.own [.int .i64 at0, .int .i64 sq0, .int .i64 ti0, .bool mk0, .int .u8 ty0, .slice B0 pl0.length c0] rfl (by simp [Value.oneCell']) rfl (by unfold maxLen; omega) (by omega) IS2.out.hB ?_); intro An cn wn hown hgr hat)
          go_wp2_with fail
          go_roundg (gk - 1)
          case measure => omega
          case rel =>
            refine ⟨k + 1, An, cn, by omega, rfl, by go_num, Lib.hid ?_⟩
            rw [HTK.out]
            exact IS2.out.one (l2 := [_]) (by simpa [TW.row] using hown) hgr
      · exfalso
        omega
    have hi2 : (l.length : Int) ≤ (k : Int) := by omega
    obtain rfl : k = p := by omega
    have HCUT : Hid (RowsAt w w.heap.size 6 TW.row (some ⟨bA, oA, none⟩) (l.drop k)) := Lib.hid (RowsAt.nil' (by simp <;> omega))
    have hd1 : decide ((k : Int) < (l.length : Int)) = false := by rw [decide_eq_false_iff_not]; omega
    have hd2 : decide (k < l.length) = false := by rw [decide_eq_false_iff_not]; exact hk
    go_wp2_with fail
    go_quiet (fail)
    have IS2 := IS.out.drewN nq
    clear hd1 hd2
    have hxl := IS2.bx.lt
    have y0 := IS2.bx.at 0 _ rfl
    have y1 := IS2.bx.at 1 _ rfl
    have y2 := IS2.bx.at 2 _ rfl
    have y3 := IS2.bx.at 3 _ rfl
    have y4 := IS2.bx.at 4 _ rfl
    have y5 := IS2.bx.at 5 _ rfl
    have IS9 := Lib.hid IS2
    go_upto_region 7 with fail
    have h5 : ((k : Nat) + 1) * 56 ≤ 140737488355328 := by omega
    have h6 : k + 1 ≤ maxLen := by unfold maxLen; omega
    have h7 := IS9.out.hB
    have HX := Lib.hid IS9.out.own
    go_upto_region 8 with (at_builtin; go_loud (refine wpList_append_at (w0 := World.drewN wr nq) rfl _ _ 24 rfl (w.heap.size + 1) 50 6 56 _ Try.underlying24 info_w rfl (by decide) A1 k c1 _ rfl HX.out [.int .i64 xa, .int .i64 xs, .int .i64 xt, .bool xm, .int .u8 xy, .slice XB xp.length xc] rfl (by simp [Value.oneCell']) rfl h6 h5 h7 ?_); intro A2 c2 wn hown hgr hat)
    have IS10 := Lib.hid (IS9.out.one (l2 := [⟨⟨xa, ⟨xs, xt, xm, xy, xp⟩⟩, XB, xc⟩]) (by simpa [TW.row] using hown) hgr)
    clear hown hgr hat y0 y1 y2 y3 y4 y5
    go_wp2_with (at_builtin; go_loud (refine wpList_append_rows rfl _ _ 24 rfl (w.heap.size + 1) 50 6 56 (.agg #[.int .i64 0, .int .i64 0, .int .i64 0, .bool false, .int .u8 0, .slice none 0 0]) Try.underlying24 info_w rfl (by decide) A2 (k + 1) c2 _ rfl IS10.out.own w.heap.size TW.row row_sixW row_oneW _ _ _ (l.drop k) rfl (RowsAt.keep HCUT.out (fun p hp => IS10.out.u.cell hp)) (by simp) (by unfold maxLen; simp <;> omega) (by simp <;> omega) IS10.out.hB (l.length + 1) (by simp <;> omega) ?_); intro A3 c3 wm hown hgr hat)
    have IS11 := IS10.out.one (l2 := l.drop k) hown hgr
    go_wp2_with fail
    go_ret
    exact ⟨A3, c3, rfl, by rw [HI.out]; simpa using IS11.own, IS11.u⟩
set_option maxRecDepth 100000 in
set_option maxHeartbeats 12800000 in
theorem rins_no (l : List TW) (n c : Nat) (xa xs xt : Int) (xm : Bool) (xy : Int) (XB : Option Addr) (xp : List Int) (xc : Nat) (w : World) (hn : l.length = n) (hl : n ≤ 1000) (hcap : n ≤ c) (hcm : c ≤ maxLen) (hA : RowsAt w w.heap.size 6 TW.row none l) (h0 : l.length = 0) : Calls Try.prog 40 #[.slice none n c, .agg #[.int .i64 xa, .int .i64 xs, .int .i64 xt, .bool xm, .int .u8 xy, .slice XB xp.length xc]] w (RInsR l ⟨⟨xa, ⟨xs, xt, xm, xy, xp⟩⟩, XB, xc⟩ w) := by
  obtain rfl : l = [] := List.eq_nil_of_length_eq_zero h0
  subst hn
  clear h0
  have HA := Lib.hid hA
  have HI : Hid (insT [] ⟨⟨xa, ⟨xs, xt, xm, xy, xp⟩⟩, XB, xc⟩ = [⟨⟨xa, ⟨xs, xt, xm, xy, xp⟩⟩, XB, xc⟩]) := Lib.hid rfl
  clear hA
  unfold maxLen at hcm
  have IS0 : Hid (ISt w (w.alloc (.cells #[.int .i64 xa, .int .i64 xs, .int .i64 xt, .bool xm, .int .u8 xy, .slice XB xp.length xc] 50)) [.int .i64 xa, .int .i64 xs, .int .i64 xt, .bool xm, .int .u8 xy, .slice XB xp.length xc] none 0 0 []) := Lib.hid ⟨Blk.new w _ _, (Bel.refl w).push _, Owns.nil, by simp⟩
  go_enter Try.func40, Try.ntmps40
  go_wp2_with fail
  go_loopg [5, 6] 0 (fun gk s5 i wr => ∃ (k : Nat) (A1 : Option Addr) (c1 : Nat), gk + k = 0 ∧ s5 = .slice A1 k c1 ∧ i = .int .i64 k ∧ Hid (ISt w wr [.int .i64 xa, .int .i64 xs, .int .i64 xt, .bool xm, .int .u8 xy, .slice XB xp.length xc] A1 k c1 ([])))
  case atStart => exact ⟨0, none, 0, rfl, rfl, rfl, IS0⟩
  case round =>
    obtain ⟨k, A1, c1, hgk, rfl, rfl, IS⟩ := hrel
    have hi0 : (0 : Int) ≤ (k : Int) := by omega
    have hwl := IS.out.bx.lt
    have x0 := IS.out.bx.at 0 _ rfl
    have x1 := IS.out.bx.at 1 _ rfl
    have x2 := IS.out.bx.at 2 _ rfl
    have x3 := IS.out.bx.at 3 _ rfl
    have x4 := IS.out.bx.at 4 _ rfl
    have x5 := IS.out.bx.at 5 _ rfl
    have hk : ¬k < 0 := by omega
    have hi2 : (0 : Int) ≤ (k : Int) := by omega
    obtain rfl : k = 0 := by omega
    have HCUT : Hid (RowsAt w w.heap.size 6 TW.row none ([] : List TW)) := Lib.hid (RowsAt.nil' (by simp <;> omega))
    have hd1 : decide ((0 : Int) < 0) = false := by rw [decide_eq_false_iff_not]; omega
    have hd2 : decide (0 < 0) = false := by rw [decide_eq_false_iff_not]; omega
    go_wp2_with fail
    go_quiet (fail)
    have IS2 := IS.out.drewN nq
    clear hd1 hd2
    have hxl := IS2.bx.lt
    have y0 := IS2.bx.at 0 _ rfl
    have y1 := IS2.bx.at 1 _ rfl
    have y2 := IS2.bx.at 2 _ rfl
    have y3 := IS2.bx.at 3 _ rfl
    have y4 := IS2.bx.at 4 _ rfl
    have y5 := IS2.bx.at 5 _ rfl
    have IS9 := Lib.hid IS2
    go_upto_region 7 with fail
    have h5 : ((0 : Nat) + 1) * 56 ≤ 140737488355328 := by omega
    have h6 : 0 + 1 ≤ maxLen := by unfold maxLen; omega
    have h7 := IS9.out.hB
    have HX := Lib.hid IS9.out.own
    go_upto_region 8 with (at_builtin; go_loud (refine wpList_append_at (w0 := World.drewN wr nq) rfl _ _ 24 rfl (w.heap.size + 1) 50 6 56 _ Try.underlying24 info_w rfl (by decide) A1 0 c1 _ rfl HX.out [.int .i64 xa, .int .i64 xs, .int .i64 xt, .bool xm, .int .u8 xy, .slice XB xp.length xc] rfl (by simp [Value.oneCell']) rfl h6 h5 h7 ?_); intro A2 c2 wn hown hgr hat)
    have IS10 := Lib.hid (IS9.out.one (l2 := [⟨⟨xa, ⟨xs, xt, xm, xy, xp⟩⟩, XB, xc⟩]) (by simpa [TW.row] using hown) hgr)
    clear hown hgr hat y0 y1 y2 y3 y4 y5
    go_wp2_with (at_builtin; go_loud (refine wpList_append_rows rfl _ _ 24 rfl (w.heap.size + 1) 50 6 56 (.agg #[.int .i64 0, .int .i64 0, .int .i64 0, .bool false, .int .u8 0, .slice none 0 0]) Try.underlying24 info_w rfl (by decide) A2 (0 + 1) c2 _ rfl IS10.out.own w.heap.size TW.row row_sixW row_oneW _ _ _ ([] : List TW) rfl (RowsAt.keep HCUT.out (fun p hp => IS10.out.u.cell hp)) (by simp) (by unfold maxLen; simp <;> omega) (by simp <;> omega) IS10.out.hB (0 + 1) (by simp <;> omega) ?_); intro A3 c3 wm hown hgr hat)
    have IS11 := IS10.out.one (l2 := []) hown hgr
    go_wp2_with fail
    go_ret
    exact ⟨A3, c3, rfl, by rw [HI.out]; simpa using IS11.own, IS11.u⟩
set_option maxRecDepth 100000 in
set_option maxHeartbeats 12800000 in
theorem rins_no0 (ad : Addr) (l : List TW) (n c : Nat) (xa xs xt : Int) (xm : Bool) (xy : Int) (XB : Option Addr) (xp : List Int) (xc : Nat) (w : World) (hn : l.length = n) (hl : n ≤ 1000) (hcap : n ≤ c) (hcm : c ≤ maxLen) (hA : RowsAt w w.heap.size 6 TW.row (some ad) l) (h0 : l.length = 0) : Calls Try.prog 40 #[.slice (some ad) n c, .agg #[.int .i64 xa, .int .i64 xs, .int .i64 xt, .bool xm, .int .u8 xy, .slice XB xp.length xc]] w (RInsR l ⟨⟨xa, ⟨xs, xt, xm, xy, xp⟩⟩, XB, xc⟩ w) := by
  obtain rfl : l = [] := List.eq_nil_of_length_eq_zero h0
  subst hn
  clear h0
  have HA := Lib.hid hA
  have HI : Hid (insT [] ⟨⟨xa, ⟨xs, xt, xm, xy, xp⟩⟩, XB, xc⟩ = [⟨⟨xa, ⟨xs, xt, xm, xy, xp⟩⟩, XB, xc⟩]) := Lib.hid rfl
  clear hA
  unfold maxLen at hcm
  have IS0 : Hid (ISt w (w.alloc (.cells #[.int .i64 xa, .int .i64 xs, .int .i64 xt, .bool xm, .int .u8 xy, .slice XB xp.length xc] 50)) [.int .i64 xa, .int .i64 xs, .int .i64 xt, .bool xm, .int .u8 xy, .slice XB xp.length xc] none 0 0 []) := Lib.hid ⟨Blk.new w _ _, (Bel.refl w).push _, Owns.nil, by simp⟩
  go_enter Try.func40, Try.ntmps40
  go_wp2_with fail
  go_loopg [5, 6] 0 (fun gk s5 i wr => ∃ (k : Nat) (A1 : Option Addr) (c1 : Nat), gk + k = 0 ∧ s5 = .slice A1 k c1 ∧ i = .int .i64 k ∧ Hid (ISt w wr [.int .i64 xa, .int .i64 xs, .int .i64 xt, .bool xm, .int .u8 xy, .slice XB xp.length xc] A1 k c1 ([])))
  case atStart => exact ⟨0, none, 0, rfl, rfl, rfl, IS0⟩
  case round =>
    obtain ⟨k, A1, c1, hgk, rfl, rfl, IS⟩ := hrel
    have hi0 : (0 : Int) ≤ (k : Int) := by omega
    have hwl := IS.out.bx.lt
    have x0 := IS.out.bx.at 0 _ rfl
    have x1 := IS.out.bx.at 1 _ rfl
    have x2 := IS.out.bx.at 2 _ rfl
    have x3 := IS.out.bx.at 3 _ rfl
    have x4 := IS.out.bx.at 4 _ rfl
    have x5 := IS.out.bx.at 5 _ rfl
    have hk : ¬k < 0 := by omega
    have hi2 : (0 : Int) ≤ (k : Int) := by omega
    obtain rfl : k = 0 := by omega
    have HCUT : Hid (RowsAt w w.heap.size 6 TW.row (some ad) ([] : List TW)) := Lib.hid (RowsAt.nil' (by simp <;> omega))
    have hd1 : decide ((0 : Int) < 0) = false := by rw [decide_eq_false_iff_not]; omega
    have hd2 : decide (0 < 0) = false := by rw [decide_eq_false_iff_not]; omega
    go_wp2_with fail
    go_quiet (fail)
    have IS2 := IS.out.drewN nq
    clear hd1 hd2
    have hxl := IS2.bx.lt
    have y0 := IS2.bx.at 0 _ rfl
    have y1 := IS2.bx.at 1 _ rfl
    have y2 := IS2.bx.at 2 _ rfl
    have y3 := IS2.bx.at 3 _ rfl
    have y4 := IS2.bx.at 4 _ rfl
    have y5 := IS2.bx.at 5 _ rfl
    have IS9 := Lib.hid IS2
    go_upto_region 7 with fail
    have h5 : ((0 : Nat) + 1) * 56 ≤ 140737488355328 := by omega
    have h6 : 0 + 1 ≤ maxLen := by unfold maxLen; omega
    have h7 := IS9.out.hB
    have HX := Lib.hid IS9.out.own
    go_upto_region 8 with (at_builtin; go_loud (refine wpList_append_at (w0 := World.drewN wr nq) rfl _ _ 24 rfl (w.heap.size + 1) 50 6 56 _ Try.underlying24 info_w rfl (by decide) A1 0 c1 _ rfl HX.out [.int .i64 xa, .int .i64 xs, .int .i64 xt, .bool xm, .int .u8 xy, .slice XB xp.length xc] rfl (by simp [Value.oneCell']) rfl h6 h5 h7 ?_); intro A2 c2 wn hown hgr hat)
    have IS10 := Lib.hid (IS9.out.one (l2 := [⟨⟨xa, ⟨xs, xt, xm, xy, xp⟩⟩, XB, xc⟩]) (by simpa [TW.row] using hown) hgr)
    clear hown hgr hat y0 y1 y2 y3 y4 y5
    go_wp2_with (at_builtin; go_loud (refine wpList_append_rows rfl _ _ 24 rfl (w.heap.size + 1) 50 6 56 (.agg #[.int .i64 0, .int .i64 0, .int .i64 0, .bool false, .int .u8 0, .slice none 0 0]) Try.underlying24 info_w rfl (by decide) A2 (0 + 1) c2 _ rfl IS10.out.own w.heap.size TW.row row_sixW row_oneW _ _ _ ([] : List TW) rfl (RowsAt.keep HCUT.out (fun p hp => IS10.out.u.cell hp)) (by simp) (by unfold maxLen; simp <;> omega) (by simp <;> omega) IS10.out.hB (0 + 1) (by simp <;> omega) ?_); intro A3 c3 wm hown hgr hat)
    have IS11 := IS10.out.one (l2 := []) hown hgr
    go_wp2_with fail
    go_ret
    exact ⟨A3, c3, rfl, by rw [HI.out]; simpa using IS11.own, IS11.u⟩
theorem rins_any (l : List TW) (x : TW) (A : Option Addr) (n c : Nat) (w : World) (hn : l.length = n) (hl : n ≤ 1000) (hcap : n ≤ c) (hcm : c ≤ maxLen) (hA : RowsAt w w.heap.size 6 TW.row A l) : Calls Try.prog 40 #[.slice A n c, .agg x.row.toArray] w (RInsR l x w) := by
  obtain ⟨⟨xa, ⟨xs, xt, xm, xy, xp⟩⟩, XB, xc⟩ := x
  rcases Nat.eq_zero_or_pos l.length with h0 | h0
  · rcases A with _ | ad
    · exact rins_no l n c xa xs xt xm xy XB xp xc w hn hl hcap hcm hA h0
    · exact rins_no0 ad l n c xa xs xt xm xy XB xp xc w hn hl hcap hcm hA h0
  · obtain ⟨bA, oA, rfl, _⟩ := hA h0
    by_cases hcp : c = (l.takeWhile (befB ⟨⟨xa, ⟨xs, xt, xm, xy, xp⟩⟩, XB, xc⟩)).length
    · exact rins_end bA oA l n c xa xs xt xm xy XB xp xc w hn hl hcap hcm hA (Nat.le_of_eq hcp)
    · exact rins_some bA oA l n c xa xs xt xm xy XB xp xc w hn hl hcap hcm hA hcp
end Go.Proofs.Ytnaafjdnmbajjaa

/- Layer 30: insert of the law. -/
import Derived.Test.YtnaafjdnmbajjaaJtRIns
import Derived.Test.YtnaafjdnmbajjaaJtPlaysPQ
import Derived.BigQuiet
import Derived.Deep.QuietTactic
namespace Go.Proofs.Ytnaafjdnmbajjaa
open Go.RowKit
set_option linter.unusedVariables false
set_option linter.unusedSimpArgs false
attribute [local go_sem ↓] run_min_plain run_max_plain
attribute [local go_sem] setCell_drewN alloc_drewN
def notAft (x a : TW) : Bool := !decide (Jb.bef x.w a.w)
theorem notAft_t {x a : TW} (h : notAft x a = true) : ¬(x.w.at_ < a.w.at_ ∨ (x.w.at_ = a.w.at_ ∧ x.w.m.sq < a.w.m.sq)) := by
  unfold notAft at h
  rw [Bool.not_eq_true', decide_eq_false_iff_not] at h
  exact h
theorem notAft_f {x a : TW} (h : notAft x a = false) : x.w.at_ < a.w.at_ ∨ (x.w.at_ = a.w.at_ ∧ x.w.m.sq < a.w.m.sq) := by
  unfold notAft at h
  rw [Bool.not_eq_false', decide_eq_true_iff] at h
  exact h
def insT' (l : List TW) (x : TW) : List TW := l.takeWhile (notAft x) ++ x :: l.dropWhile (notAft x)
theorem insT'_map (l : List TW) (x : TW) : (insT' l x).map TW.w = Jb.ins' (l.map TW.w) x.w := by
  unfold insT' Jb.ins'
  rw [List.takeWhile_map, List.dropWhile_map, List.map_append, List.map_cons]
  rfl
theorem insT'_len (l : List TW) (x : TW) : (insT' l x).length = l.length + 1 := by
  have h := congrArg List.length (List.takeWhile_append_dropWhile (p := notAft x) (l := l))
  unfold insT'
  simp only [List.length_append, List.length_cons] at h ⊢
  omega
theorem insT'_mem {l : List TW} {x a : TW} (h : a ∈ insT' l x) : a = x ∨ a ∈ l := by
  unfold insT' at h
  rcases List.mem_append.1 h with h | h
  · exact .inr ((List.takeWhile_sublist _).subset h)
  · rcases List.mem_cons.1 h with h | h
    · exact .inl h
    · exact .inr ((List.dropWhile_sublist _).subset h)
/-- what lies in the list behind k rounds -/
def insK (l : List TW) (x : TW) (p k : Nat) : List TW := if k ≤ p then l.take k else l.take p ++ x :: (l.take k).drop p
theorem insK_before {l : List TW} {x a : TW} {p k : Nat} (h : k < p) (ha : l[k]? = some a) : insK l x p (k + 1) = insK l x p k ++ [a] := by
  unfold insK
  rw [if_pos (by omega), if_pos (by omega), List.take_add_one, ha]; rfl
theorem insK_at {l : List TW} {x a : TW} {p : Nat} (ha : l[p]? = some a) : insK l x p (p + 1) = (insK l x p p ++ [x]) ++ [a] := by
  have hp : p < l.length := (List.getElem?_eq_some_iff.1 ha).1
  unfold insK
  rw [if_neg (by omega), if_pos (Nat.le_refl _), List.take_add_one, ha, List.drop_append_of_le_length (by simp; omega), List.drop_of_length_le (by simp; omega)]
  simp
theorem insK_after {l : List TW} {x a : TW} {p k : Nat} (h : p < k) (ha : l[k]? = some a) : insK l x p (k + 1) = insK l x p k ++ [a] := by
  have hk : k < l.length := (List.getElem?_eq_some_iff.1 ha).1
  unfold insK
  rw [if_neg (by omega), if_neg (by omega), List.take_add_one, ha, List.drop_append_of_le_length (by simp; omega)]
  simp
theorem insK_end {l : List TW} {x : TW} {p : Nat} (hp : p ≤ l.length) (h1 : insT' l x = l.take p ++ x :: l.drop p) : (p < l.length → insK l x p l.length = insT' l x) ∧ (p = l.length → insK l x p l.length ++ [x] = insT' l x) := by
  unfold insK
  rw [h1]
  refine ⟨fun h => ?_, fun h => ?_⟩
  · rw [if_neg (by omega), List.take_length]
  · subst h; rw [if_pos (Nat.le_refl _)]; simp
theorem insK_len {l : List TW} {x : TW} {p k : Nat} (hk : k ≤ l.length) : (insK l x p k).length = if k ≤ p then k else k + 1 := by
  unfold insK
  split
  · simp; omega
  · simp; omega
/-- what insert leaves -/
def LInsR (l : List TW) (x : TW) (w : World) (e : Ending) (w' : World) : Prop :=
  ∃ (A' : Option Addr) (c' : Nat), e = .returned (.slice A' (l.length + 1) c') ∧ Owns w' (w.heap.size + 1) 50 6 A' (l.length + 1) c' ((insT' l x).flatMap TW.row) ∧ Below w.heap.size w w'
theorem own_len {w : World} {B n c : Nat} {A : Option Addr} {l : List TW} (h : Owns w B 50 6 A n c (l.flatMap TW.row)) : l.length = n := by
  have h1 := h.1
  rw [flat_len2 row_sixW] at h1
  omega
set_option maxRecDepth 100000 in
set_option maxHeartbeats 12800000 in
theorem linsert_any (l : List TW) (A : Option Addr) (n c : Nat) (xa xs xt : Int) (xm : Bool) (xy : Int) (XB : Option Addr) (xp : List Int) (xc : Nat) (w : World) (hn : l.length = n) (hl : n ≤ 1000) (hA : RowsAt w w.heap.size 6 TW.row A l) : Calls Try.prog 26 #[.slice A n c, .agg #[.int .i64 xa, .int .i64 xs, .int .i64 xt, .bool xm, .int .u8 xy, .slice XB xp.length xc]] w (LInsR l ⟨⟨xa, ⟨xs, xt, xm, xy, xp⟩⟩, XB, xc⟩ w) := by
  subst hn
  obtain ⟨w1, w2, w3, w4, w5⟩ := while_len (notAft ⟨⟨xa, ⟨xs, xt, xm, xy, xp⟩⟩, XB, xc⟩) l
  generalize hp : (l.takeWhile (notAft ⟨⟨xa, ⟨xs, xt, xm, xy, xp⟩⟩, XB, xc⟩)).length = p at w1 w2 w3 w4 w5
  have hins : insT' l ⟨⟨xa, ⟨xs, xt, xm, xy, xp⟩⟩, XB, xc⟩ = l.take p ++ (⟨⟨xa, ⟨xs, xt, xm, xy, xp⟩⟩, XB, xc⟩ :: l.drop p) := by unfold insT'; rw [← w1, ← w2]
  have HI := Lib.hid (insK_end w3 hins)
  have HA := Lib.hid hA
  have H4 := Lib.hid w4
  have H5 := Lib.hid w5
  clear hA w1 w2 w4 w5 hp hins
  have IS0 : Hid (ISt w (w.alloc (.cells #[.int .i64 xa, .int .i64 xs, .int .i64 xt, .bool xm, .int .u8 xy, .slice XB xp.length xc] 50)) [.int .i64 xa, .int .i64 xs, .int .i64 xt, .bool xm, .int .u8 xy, .slice XB xp.length xc] none 0 0 []) := Lib.hid ⟨Blk.new w _ _, (Bel.refl w).push _, Owns.nil, by simp⟩
  go_enter Try.func26, Try.ntmps26
  go_wp2_with fail
  go_loopg [5, 6, 7] l.length (fun gk s5 s6 i wr => ∃ (k m : Nat) (d : Bool) (A1 : Option Addr) (c1 : Nat), gk + k = l.length ∧ m ≤ k + 1 ∧ s5 = .slice A1 m c1 ∧ s6 = .bool d ∧ i = .int .i64 k ∧ Hid (d = decide (p < k)) ∧ Hid (ISt w wr [.int .i64 xa, .int .i64 xs, .int .i64 xt, .bool xm, .int .u8 xy, .slice XB xp.length xc] A1 m c1 (insK l ⟨⟨xa, ⟨xs, xt, xm, xy, xp⟩⟩, XB, xc⟩ p k)))
  case atStart => exact ⟨0, 0, false, none, 0, by omega, by omega, rfl, rfl, rfl, Lib.hid (by simp), by unfold insK; rw [if_pos (Nat.zero_le _)]; exact IS0⟩
  case round =>
    obtain ⟨k, m, d, A1, c1, hgk, hmk, rfl, rfl, rfl, HD, IS⟩ := hrel
    have hi0 : (0 : Int) ≤ (k : Int) := by omega
    have hwl := IS.out.bx.lt
    have x0 := IS.out.bx.at 0 _ rfl
    have x1 := IS.out.bx.at 1 _ rfl
    have x2 := IS.out.bx.at 2 _ rfl
    have x3 := IS.out.bx.at 3 _ rfl
    have x4 := IS.out.bx.at 4 _ rfl
    have x5 := IS.out.bx.at 5 _ rfl
    by_cases hk : k < l.length
    rotate_left
    · obtain rfl : k = l.length := by omega
      have hi1 : (l.length : Int) ≤ (l.length : Int) := Int.le_refl _
      by_cases hpl : p < l.length
      · have hm : m = l.length + 1 := by rw [← own_len IS.out.own, insK_len (Nat.le_refl _), if_neg (by omega)]
        subst hm
        obtain rfl : d = true := by rw [HD.out]; simpa using hpl
        go_wp2_with fail
        go_ret
        exact ⟨A1, c1, rfl, by rw [← HI.out.1 hpl]; exact IS.out.own, IS.out.u⟩
      have hpe : p = l.length := by omega
      have hm : m = l.length := by rw [← own_len IS.out.own, insK_len (Nat.le_refl _), if_pos (by omega)]
      subst hm
      obtain rfl : d = false := by rw [HD.out]; simpa using hpl
      have h5 : (l.length + 1) * 56 ≤ 140737488355328 := by omega
      have h6 : l.length + 1 ≤ maxLen := by unfold maxLen; omega
      have h7 := IS.out.hB
      have HX := Lib.hid IS.out.own
      go_upto_region 11 with fail
      go_wp2_with (at_builtin; go_loud (refine wpList_append_at (w0 := wr) rfl _ _ 24 rfl (w.heap.size + 1) 50 6 56 _ Try.underlying24 info_w rfl (by decide) A1 l.length c1 _ rfl HX.out [.int .i64 xa, .int .i64 xs, .int .i64 xt, .bool xm, .int .u8 xy, .slice XB xp.length xc] rfl (by simp [Value.oneCell']) rfl h6 h5 h7 ?_); intro A2 c2 wn hown hgr hat)
      have IS2 := IS.out.one (l2 := [⟨⟨xa, ⟨xs, xt, xm, xy, xp⟩⟩, XB, xc⟩]) (by simpa [TW.row] using hown) hgr
      go_wp2_with fail
      go_ret
      exact ⟨A2, c2, rfl, by rw [← HI.out.2 hpe]; exact IS2.own, IS2.u⟩
    have hi1 : (k : Int) < (l.length : Int) := by omega
    obtain ⟨a, ha⟩ : ∃ a, l[k]? = some a := ⟨_, List.getElem?_eq_getElem hk⟩
    obtain ⟨b, off, rfl, hbB, e0, e1, e2, e3, e4, e5⟩ := rowsW (HA.out.keep (fun p hp => IS.out.u.cell hp)) ha
    have HKB := Lib.hid (fun (h : k < p) => insK_before (x := ⟨⟨xa, ⟨xs, xt, xm, xy, xp⟩⟩, XB, xc⟩) h ha)
    have HKA : Hid (k = p → insK l ⟨⟨xa, ⟨xs, xt, xm, xy, xp⟩⟩, XB, xc⟩ p (k + 1) = (insK l ⟨⟨xa, ⟨xs, xt, xm, xy, xp⟩⟩, XB, xc⟩ p k ++ [⟨⟨xa, ⟨xs, xt, xm, xy, xp⟩⟩, XB, xc⟩]) ++ [a]) := Lib.hid (fun h => by subst h; exact insK_at ha)
    have HKF := Lib.hid (fun (h : p < k) => insK_after (x := ⟨⟨xa, ⟨xs, xt, xm, xy, xp⟩⟩, XB, xc⟩) h ha)
    have HB4 : Hid (k < p → notAft ⟨⟨xa, ⟨xs, xt, xm, xy, xp⟩⟩, XB, xc⟩ a = true) := Lib.hid (fun h => H4.out k a h ha)
    have HB5 : Hid (k = p → notAft ⟨⟨xa, ⟨xs, xt, xm, xy, xp⟩⟩, XB, xc⟩ a = false) := Lib.hid (fun h => H5.out a (by rw [← h]; exact ha))
    obtain ⟨⟨at0, ⟨sq0, ti0, mk0, ty0, pl0⟩⟩, B0, c0⟩ := a
    simp only at e0 e1 e2 e3 e4 e5
    have hbwr : b < wr.heap.size := by have := IS.out.u.size; omega
    clear ha
    by_cases hpk : p < k
    · obtain rfl : d = true := by rw [HD.out]; simpa using hpk
      have h5 : (m + 1) * 56 ≤ 140737488355328 := by omega
      have h6 : m + 1 ≤ maxLen := by unfold maxLen; omega
      have h7 := IS.out.hB
      have HX := Lib.hid IS.out.own
      clear x0 x1 x2 x3 x4 x5
      go_wp2_with fail
      go_quiet (fail)
      have IS1 := Lib.hid (IS.out.drewN nq)
      have HX1 := Lib.hid IS1.out.own
      go_wp2_with (at_builtin; go_loud (refine wpList_append_at (w0 := World.drewN wr nq) rfl _ _ 24 rfl (w.heap.size + 1) 50 6 56 _ Try.underlying24 info_w rfl (by decide) A1 m c1 _ rfl HX1.out [.int .i64 at0, .int .i64 sq0, .int .i64 ti0, .bool mk0, .int .u8 ty0, .slice B0 pl0.length c0] rfl (by simp [Value.oneCell']) rfl h6 h5 h7 ?_); intro A3 c3 wm hown2 hgr2 hat2)
      have IS3 := IS1.out.one (l2 := [⟨⟨at0, ⟨sq0, ti0, mk0, ty0, pl0⟩⟩, B0, c0⟩]) (by simpa [TW.row] using hown2) hgr2
      go_wp2_with fail
      go_roundg (gk - 1)
      case measure => omega
      case rel => exact ⟨k + 1, m + 1, true, A3, c3, by omega, by omega, rfl, rfl, by go_num, Lib.hid (by simp; omega), Lib.hid (by rw [HKF.out hpk]; exact IS3)⟩
    obtain rfl : d = false := by rw [HD.out]; simpa using hpk
    have hm : m = k := by rw [← own_len IS.out.own, insK_len (Nat.le_of_lt hk), if_pos (by omega)]
    subst hm
    by_cases hkp : m < p
    · have hb : ¬(xa < at0 ∨ (xa = at0 ∧ xs < sq0)) := notAft_t (HB4.out hkp)
      have cc1 : decide (xa < at0) = false := by rw [decide_eq_false_iff_not]; omega
      by_cases c2 : xa = at0
      · have c3 : (xa == at0) = true := by simpa using c2
        have c4 : decide (xs < sq0) = false := by rw [decide_eq_false_iff_not]; omega
        have c1n : at0 ≤ xa := by omega
        have c4n : sq0 ≤ xs := by omega
        have HC2 := Lib.hid c2
        clear c2
        have h5 : (m + 1) * 56 ≤ 140737488355328 := by omega
        have h6 : m + 1 ≤ maxLen := by unfold maxLen; omega
        have h7 := IS.out.hB
        have HX := Lib.hid IS.out.own
        have HBX := Lib.hid hb
        clear hb
        go_wp2_with fail
        go_quiet (fail)
        clear x0 x1 x2 x3 x4 x5
        have IS1 := Lib.hid (IS.out.drewN nq)
        have HX1 := Lib.hid IS1.out.own
        go_wp2_with (at_builtin; go_loud (refine wpList_append_at (w0 := World.drewN wr nq) rfl _ _ 24 rfl (w.heap.size + 1) 50 6 56 _ Try.underlying24 info_w rfl (by decide) A1 m c1 _ rfl HX1.out [.int .i64 at0, .int .i64 sq0, .int .i64 ti0, .bool mk0, .int .u8 ty0, .slice B0 pl0.length c0] rfl (by simp [Value.oneCell']) rfl h6 h5 h7 ?_); intro A3 c3 wm hown2 hgr2 hat2)
        have IS3 := IS1.out.one (l2 := [⟨⟨at0, ⟨sq0, ti0, mk0, ty0, pl0⟩⟩, B0, c0⟩]) (by simpa [TW.row] using hown2) hgr2
        go_wp2_with fail
        go_roundg (gk - 1)
        case measure => omega
        case rel => exact ⟨m + 1, m + 1, false, A3, c3, by omega, by omega, rfl, rfl, by go_num, Lib.hid (by simp; omega), Lib.hid (by rw [HKB.out hkp]; exact IS3)⟩
      have c3 : (xa == at0) = false := by simpa using c2
      have c1n : at0 ≤ xa := by omega
      have HC2 := Lib.hid c2
      clear c2
      have h5 : (m + 1) * 56 ≤ 140737488355328 := by omega
      have h6 : m + 1 ≤ maxLen := by unfold maxLen; omega
      have h7 := IS.out.hB
      have HX := Lib.hid IS.out.own
      have HBX := Lib.hid hb
      clear hb
      go_wp2_with fail
      go_quiet (fail)
      clear x0 x1 x2 x3 x4 x5
      have IS1 := Lib.hid (IS.out.drewN nq)
      have HX1 := Lib.hid IS1.out.own
      go_wp2_with (at_builtin; go_loud (refine wpList_append_at (w0 := World.drewN wr nq) rfl _ _ 24 rfl (w.heap.size + 1) 50 6 56 _ Try.underlying24 info_w rfl (by decide) A1 m c1 _ rfl HX1.out [.int .i64 at0, .int .i64 sq0, .int .i64 ti0, .bool mk0, .int .u8 ty0, .slice B0 pl0.length c0] rfl (by simp [Value.oneCell']) rfl h6 h5 h7 ?_); intro A3 c3 wm hown2 hgr2 hat2)
      have IS3 := IS1.out.one (l2 := [⟨⟨at0, ⟨sq0, ti0, mk0, ty0, pl0⟩⟩, B0, c0⟩]) (by simpa [TW.row] using hown2) hgr2
      go_wp2_with fail
      go_roundg (gk - 1)
      case measure => omega
      case rel => exact ⟨m + 1, m + 1, false, A3, c3, by omega, by omega, rfl, rfl, by go_num, Lib.hid (by simp; omega), Lib.hid (by rw [HKB.out hkp]; exact IS3)⟩
    have hkp2 : m = p := by omega
    have hb : xa < at0 ∨ (xa = at0 ∧ xs < sq0) := notAft_f (HB5.out hkp2)
    have HKP2 := Lib.hid hkp2
    clear hkp2
    by_cases c2 : xa < at0
    · have cc1 : decide (xa < at0) = true := by rw [decide_eq_true_iff]; exact c2
      have h5 : (m + 1) * 56 ≤ 140737488355328 := by omega
      have h6 : m + 1 ≤ maxLen := by unfold maxLen; omega
      have h7 := IS.out.hB
      have HX := Lib.hid IS.out.own
      have HBX := Lib.hid hb
      clear hb
      go_wp2_with fail
      go_quiet (fail)
      have IS1 := Lib.hid (IS.out.drewN nq)
      have HX1 := Lib.hid IS1.out.own
      go_upto_region 8 with (at_builtin; go_loud (refine wpList_append_at (w0 := World.drewN wr nq) rfl _ _ 24 rfl (w.heap.size + 1) 50 6 56 _ Try.underlying24 info_w rfl (by decide) A1 m c1 _ rfl HX1.out [.int .i64 xa, .int .i64 xs, .int .i64 xt, .bool xm, .int .u8 xy, .slice XB xp.length xc] rfl (by simp [Value.oneCell']) rfl h6 h5 h7 ?_); intro A2 c2 wn hown hgr hat)
      have IS2 := Lib.hid (IS1.out.one (l2 := [⟨⟨xa, ⟨xs, xt, xm, xy, xp⟩⟩, XB, xc⟩]) (by simpa [TW.row] using hown) hgr)
      have hxb : some b ≠ ownB A1 := fun e => by have := (IS.out.own.block b e.symm).1; omega
      replace e0 := hgr.cell (by simpa using e0) hxb
      replace e1 := hgr.cell (by simpa using e1) hxb
      replace e2 := hgr.cell (by simpa using e2) hxb
      replace e3 := hgr.cell (by simpa using e3) hxb
      replace e4 := hgr.cell (by simpa using e4) hxb
      replace e5 := hgr.cell (by simpa using e5) hxb
      have hbwn : b < wn.heap.size := by have := IS2.out.u.size; omega
      clear hown hgr hat x0 x1 x2 x3 x4 x5 h5 h6 h7
      have h5 : (m + 1 + 1) * 56 ≤ 140737488355328 := by omega
      have h6 : m + 1 + 1 ≤ maxLen := by unfold maxLen; omega
      have h7 := IS2.out.hB
      have HX2 := Lib.hid IS2.out.own
      go_wp2_with (at_builtin; go_loud (refine wpList_append_at (w0 := wn) rfl _ _ 24 rfl (w.heap.size + 1) 50 6 56 _ Try.underlying24 info_w rfl (by decide) A2 (m + 1) c2 _ rfl HX2.out [.int .i64 at0, .int .i64 sq0, .int .i64 ti0, .bool mk0, .int .u8 ty0, .slice B0 pl0.length c0] rfl (by simp [Value.oneCell']) rfl h6 h5 h7 ?_); intro A3 c3 wm hown2 hgr2 hat2)
      have IS3 := IS2.out.one (l2 := [⟨⟨at0, ⟨sq0, ti0, mk0, ty0, pl0⟩⟩, B0, c0⟩]) (by simpa [TW.row] using hown2) hgr2
      go_wp2_with fail
      go_roundg (gk - 1)
      case measure => omega
      case rel => exact ⟨m + 1, m + 1 + 1, true, A3, c3, by omega, by omega, rfl, rfl, by go_num, Lib.hid (by have := HKP2.out; simp; omega), Lib.hid (by rw [HKA.out HKP2.out]; exact IS3)⟩
    have cc1 : decide (xa < at0) = false := by rw [decide_eq_false_iff_not]; exact c2
    have c1n : at0 ≤ xa := by omega
    have c3 : (xa == at0) = true := by simp; omega
    have c4 : decide (xs < sq0) = true := by rw [decide_eq_true_iff]; omega
    have c4n : xs < sq0 := by omega
    have h5 : (m + 1) * 56 ≤ 140737488355328 := by omega
    have h6 : m + 1 ≤ maxLen := by unfold maxLen; omega
    have h7 := IS.out.hB
    have HX := Lib.hid IS.out.own
    have HBX := Lib.hid hb
    clear hb
    go_wp2_with fail
    go_quiet (fail)
    have IS1 := Lib.hid (IS.out.drewN nq)
    have HX1 := Lib.hid IS1.out.own
    go_upto_region 8 with (at_builtin; go_loud (refine wpList_append_at (w0 := World.drewN wr nq) rfl _ _ 24 rfl (w.heap.size + 1) 50 6 56 _ Try.underlying24 info_w rfl (by decide) A1 m c1 _ rfl HX1.out [.int .i64 xa, .int .i64 xs, .int .i64 xt, .bool xm, .int .u8 xy, .slice XB xp.length xc] rfl (by simp [Value.oneCell']) rfl h6 h5 h7 ?_); intro A2 c2 wn hown hgr hat)
    have IS2 := Lib.hid (IS1.out.one (l2 := [⟨⟨xa, ⟨xs, xt, xm, xy, xp⟩⟩, XB, xc⟩]) (by simpa [TW.row] using hown) hgr)
    have hxb : some b ≠ ownB A1 := fun e => by have := (IS.out.own.block b e.symm).1; omega
    replace e0 := hgr.cell (by simpa using e0) hxb
    replace e1 := hgr.cell (by simpa using e1) hxb
    replace e2 := hgr.cell (by simpa using e2) hxb
    replace e3 := hgr.cell (by simpa using e3) hxb
    replace e4 := hgr.cell (by simpa using e4) hxb
    replace e5 := hgr.cell (by simpa using e5) hxb
    have hbwn : b < wn.heap.size := by have := IS2.out.u.size; omega
    clear hown hgr hat x0 x1 x2 x3 x4 x5 h5 h6 h7
    have h5 : (m + 1 + 1) * 56 ≤ 140737488355328 := by omega
    have h6 : m + 1 + 1 ≤ maxLen := by unfold maxLen; omega
    have h7 := IS2.out.hB
    have HX2 := Lib.hid IS2.out.own
    go_wp2_with (at_builtin; go_loud (refine wpList_append_at (w0 := wn) rfl _ _ 24 rfl (w.heap.size + 1) 50 6 56 _ Try.underlying24 info_w rfl (by decide) A2 (m + 1) c2 _ rfl HX2.out [.int .i64 at0, .int .i64 sq0, .int .i64 ti0, .bool mk0, .int .u8 ty0, .slice B0 pl0.length c0] rfl (by simp [Value.oneCell']) rfl h6 h5 h7 ?_); intro A3 c3 wm hown2 hgr2 hat2)
    have IS3 := IS2.out.one (l2 := [⟨⟨at0, ⟨sq0, ti0, mk0, ty0, pl0⟩⟩, B0, c0⟩]) (by simpa [TW.row] using hown2) hgr2
    go_wp2_with fail
    go_roundg (gk - 1)
    case measure => omega
    case rel => exact ⟨m + 1, m + 1 + 1, true, A3, c3, by omega, by omega, rfl, rfl, by go_num, Lib.hid (by have := HKP2.out; simp; omega), Lib.hid (by rw [HKA.out HKP2.out]; exact IS3)⟩
end Go.Proofs.Ytnaafjdnmbajjaa
/- Layer 30: waits of the law. -/
namespace Go.Proofs.Ytnaafjdnmbajjaa
open Go.RowKit
set_option linter.unusedVariables false
set_option linter.unusedSimpArgs false
attribute [local go_sem ↓] run_min_plain run_max_plain
attribute [local go_sem] setCell_drewN alloc_drewN
set_option maxRecDepth 100000 in
set_option maxHeartbeats 12800000 in
theorem waits_any (l : List TW) (A : Option Addr) (n c : Nat) (sq : Int) (w : World) (hn : l.length = n) (hl : n ≤ 100000) (hA : Wts w w.heap.size A l) (v : Bool) (hv : v = (l.map TW.w).any fun x => x.m.sq == sq) : Calls Try.prog 27 #[.slice A n c, .int .i64 sq] w fun e w' => e = .returned (.bool v) ∧ Below w.heap.size w w' := by
  subst hn
  have HA := Lib.hid hA
  have HV := Lib.hid hv
  clear hA hv
  go_enter Try.func27, Try.ntmps27
  go_wp2_with fail
  go_loopg [5] l.length (fun gk i wr => ∃ k : Nat, gk + k = l.length ∧ i = .int .i64 k ∧ Hid (∀ j a, j < k → l[j]? = some a → a.w.m.sq ≠ sq) ∧ Hid (Bel w wr))
  case atStart => exact ⟨0, rfl, rfl, Lib.hid (fun j a h => absurd h (by omega)), Lib.hid (Bel.refl w)⟩
  case round =>
    obtain ⟨k, hgk, rfl, HN, U⟩ := hrel
    have hi0 : (0 : Int) ≤ (k : Int) := by omega
    by_cases hk : k < l.length
    rotate_left
    · obtain rfl : k = l.length := by omega
      have hi1 : (l.length : Int) ≤ (l.length : Int) := Int.le_refl _
      obtain rfl : v = false := by
        rw [HV.out, List.any_eq_false]
        intro x hx
        obtain ⟨a, ha, rfl⟩ := List.mem_map.1 hx
        obtain ⟨j, hj, rfl⟩ := List.getElem_of_mem ha
        have := HN.out j _ hj (List.getElem?_eq_getElem hj)
        simpa using this
      go_wp2_with fail
      go_ret
      exact ⟨by first | rfl | simp, U.out⟩
    have hi1 : (k : Int) < (l.length : Int) := by omega
    obtain ⟨a, ha⟩ : ∃ a, l[k]? = some a := ⟨_, List.getElem?_eq_getElem hk⟩
    obtain ⟨b, off, rfl, hbB, e0, e1, e2, e3, e4, e5⟩ := rowsW (HA.out.1.keep (fun p hp => U.out.cell hp)) ha
    have HM := Lib.hid ha
    obtain ⟨sq8, hsq8⟩ : ∃ x, x = a.w.m.sq := ⟨_, rfl⟩
    rw [← hsq8] at e1
    have HSQ := Lib.hid hsq8
    clear ha hsq8 e0 e2 e3 e4 e5
    by_cases heq : sq8 = sq
    · have hee : (sq8 == sq) = true := by simpa using heq
      obtain rfl : v = true := by rw [HV.out, List.any_eq_true]; exact ⟨a.w, List.mem_map.2 ⟨a, List.mem_of_getElem? HM.out, rfl⟩, by rw [← HSQ.out]; exact hee⟩
      clear heq
      go_wp2_with fail
      go_ret
      exact ⟨by first | rfl | simp, U.out⟩
    have hee : (sq8 == sq) = false := by simpa using heq
    have HNE := Lib.hid heq
    clear heq
    go_wp2_with fail
    go_roundg (gk - 1)
    case measure => omega
    case rel =>
      refine ⟨k + 1, by omega, by go_num, Lib.hid (fun j a' hj ha' => ?_), U⟩
      by_cases hj2 : j < k
      · exact HN.out j a' hj2 ha'
      · obtain rfl : j = k := by omega
        rw [HM.out] at ha'
        injection ha' with ha'
        rw [← ha', ← HSQ.out]
        exact HNE.out
end Go.Proofs.Ytnaafjdnmbajjaa
/- Layer 30, JitterPlays: what is due, one by one; lists cut to one packet; blocks of a body. -/
namespace Go.Proofs.Ytnaafjdnmbajjaa
open Go.RowKit
set_option linter.unusedVariables false
/-- the block number i of a body -/
def findBlkN (i : Nat) : Code → Option Code
  | .block j c => if i = j then some (.block j c) else findBlkN i c
  | .seq a b => match findBlkN i a with
    | some c => some c
    | none => findBlkN i b
  | .cond _ a b => match findBlkN i a with
    | some c => some c
    | none => findBlkN i b
  | .loop c => findBlkN i c
  | .scope c => findBlkN i c
  | _ => none
theorem due_iff {now : Int} {q : List Jb.Wt} (hs : q.Pairwise Jb.bef) {k : Nat} {a : Jb.Wt} (ha : q[k]? = some a) : (k < (Jb.due now q).length → a.at_ ≤ now ∧ (Jb.due now q)[k]? = some a) ∧ ((Jb.due now q).length ≤ k → now < a.at_) := by
  have hdl := Jb.due_left now q
  refine ⟨fun h => ?_, fun h => ?_⟩
  · have h2 : (Jb.due now q)[k]? = some a := by rw [← hdl, List.getElem?_append_left h] at ha; exact ha
    refine ⟨?_, h2⟩
    have hm := List.mem_of_getElem? h2
    have h3 := List.all_eq_true.1 (List.all_takeWhile (p := fun w : Jb.Wt => decide (w.at_ ≤ now)) (l := q)) a hm
    simpa using h3
  · have h2 : (Jb.left now q)[k - (Jb.due now q).length]? = some a := by rw [← hdl, List.getElem?_append_right h] at ha; exact ha
    exact Jb.left_gt now q hs a (List.mem_of_getElem? h2)
theorem Wts.one {W : World} {n b off k : Nat} {l : List TW} {a : TW} (h : Wts W n (some ⟨b, off, none⟩) l) (ha : l[k]? = some a) : Wts W n (some ⟨b, off + k * 6, none⟩) [a] := by
  obtain ⟨b', off', e, hb, hc⟩ := h.1 (by have := (List.getElem?_eq_some_iff.1 ha).1; omega)
  injection e with e
  injection e with e1 e2
  subst e1 e2
  refine ⟨fun _ => ⟨b, off + k * 6, rfl, hb, fun i x hx j v hv => ?_⟩, fun x hx => ?_⟩
  · rcases i with _ | i
    · simp at hx
      subst hx
      have := hc k a ha j v hv
      simpa using this
    · simp at hx
  · obtain rfl := List.mem_singleton.1 hx
    exact h.2 _ (List.mem_of_getElem? ha)
end Go.Proofs.Ytnaafjdnmbajjaa

/- Layer 29, EventsSilence: for every count and frames the law returns true. -/
import Derived.Test.YtangooegialmcaaEvLives
import Derived.Test.YtangooegialmcaaEvTypes2
import Derived.Test.YtangooegialmcaaLate
import Derived.Test.YtangooegialmcaaEvSil
namespace Go.Proofs.Ytangooegialmcaa.eventsSilence
open Go.RowKit
set_option linter.unusedVariables false
set_option linter.unusedSimpArgs false
attribute [local go_sem] setCell_drewN alloc_drewN
attribute [local go_sem ↓] Go.wp_at_zero Go.wp_at_succ
theorem rows1 {w : World} {B : Nat} {A : Option Addr} {l : List TInts} (h : RowsAt w B 1 TInts.row A l) {k : Nat} {a : TInts} (ha : l[k]? = some a) : ∃ b off, A = some ⟨b, off, none⟩ ∧ b < B ∧
    w.cell? ⟨b, off + k, none⟩ = some (.slice a.A a.zs.length a.cap) := by
  obtain ⟨b, off, rfl, hb, hc⟩ := h (by have := (List.getElem?_eq_some_iff.1 ha).1; omega)
  have := hc k a ha 0 _ rfl
  rw [Nat.mul_one, Nat.add_zero] at this
  exact ⟨b, off, rfl, hb, this⟩
set_option maxRecDepth 100000 in
set_option maxHeartbeats 3200000 in
theorem main (w : World) (q : Int) (q0 : -9223372036854775808 ≤ q) (q1 : q ≤ 9223372036854775807) (A : Option Addr) (l : List TInts) (c : Nat) (hl : l.length ≤ c) (hc : c ≤ maxLen) (hA : RowsAt w w.heap.size 1 TInts.row A l) (hok : ∀ a ∈ l, a.ok .i16 w) :
    Calls Try.prog 5 #[.agg #[.int .i64 q], .slice A l.length c] w fun e w' => e = .returned (.bool true) ∧ Below w.heap.size w w' := by
  unfold maxLen at hc
  have HOK := Lib.hid hok
  have HA := Lib.hid hA
  clear hok hA
  go_enter Try.func5, Try.ntmps5
  go_wp2_with fail
  go_loopg [6, 7] 40 (fun gk s6 i wr => ∃ (k : Nat) (r x : Int), k ≤ l.length ∧ gk + k = 40 ∧ i = .int .i64 k ∧ s6 = .int .i64 r ∧ Hid (0 ≤ r ∧ r ≤ k ∧ min r 10 ≤ max x 0 ∧ -9223372036854775808 ≤ x ∧ x ≤ 9223372036854775807) ∧ Hid (Blk wr w.heap.size 43 #[.int .i64 x]) ∧ Hid (Blk wr (w.heap.size + 1) 43 #[.int .i64 x]) ∧ Hid (Bel w wr))
  case atStart => exact ⟨0, 0, q, Nat.zero_le _, rfl, rfl, rfl, Lib.hid ⟨by omega, by omega, by omega, q0, q1⟩, Lib.hid ((Blk.new w _ _).push _), Lib.hid (Blk.new1 w _ _ _), Lib.hid (((Bel.refl w).push _).push _)⟩
  case round =>
    obtain ⟨k, r, x, hk, hg, rfl, rfl, HX, B0, B1, U⟩ := hrel
    by_cases hlt : k < l.length
    · by_cases h40 : k < 40
      · obtain ⟨a, ha⟩ : ∃ a, l[k]? = some a := ⟨_, List.getElem?_eq_getElem hlt⟩
        obtain ⟨r0, r1, r2, x0, x1⟩ := HX.out
        obtain ⟨m1, m2, m3, m4⟩ := HOK.out a (List.mem_of_getElem? ha)
        obtain ⟨b, off, rfl, hbB, e0⟩ := rows1 (HA.out.keep (fun p hp => U.out.cell hp)) ha
        obtain ⟨A', zs, cap⟩ := a
        simp only at e0 m1 m2 m3 m4
        unfold maxLen at m2
        have m4' := within_i16 m4
        have IA := Lib.hid (m3.later U.out)
        have HA5 := Lib.hid ha
        have hi0 : (0 : Int) ≤ (k : Int) := by omega
        have hi1 : (k : Int) < (l.length : Int) := by omega
        have hi2 : (k : Int) < 40 := by omega
        by_cases h100 : zs.length ≤ 100
        · have h100' : (zs.length : Int) ≤ 100 := by omega
          have k1 := fun W h => Silence_any x A' zs cap W x0 x1 h m4' (by omega)
          have k2 := fun W h => rSilence_any x A' zs cap W x0 x1 h m4' (by omega)
          have k3 := Lib.hid fun W h => rLevel_any A' zs cap W h m4' (by omega)
          have hy : Ev.quiet x zs = if Ev.lev zs < 60 then 0 else min (max x 0) 9 + 1 := rfl
          have hlb := Ev.lev_bd zs m4'
          generalize Ev.quiet x zs = y at k1 k2 hy
          generalize Ev.lev zs = L at k3 hy hlb
          obtain ⟨bx, hbx⟩ : ∃ bx, bx = (y == 10) := ⟨_, rfl⟩
          rw [← hbx] at k1 k2
          replace k1 := Lib.hid k1
          replace k2 := Lib.hid k2
          have HY := Lib.hid hy
          have HBX := Lib.hid hbx
          clear hy hbx m3 m4 m4' ha HX x0 x1
          have f0 := B0.out.at 0 _ rfl
          have hU : Below wr.heap.size wr wr := Below.refl _ _
          go_wp2_with fail
          go_cut [8, 9] (fun s8 s9 wx => ∃  (g : Nat), s8 = .pointer (some ⟨g, 0, none⟩) ∧ s9 = .bool bx ∧ Hid (Blk wx g 43 #[.int .i64 y]) ∧ Hid (wr.heap.size ≤ g) ∧ Hid (Below wr.heap.size wr wx))
          case first =>
            go_region_held3 (fun w' => Below wr.heap.size wr w' ∧ w'.cell? ⟨b, off + k, none⟩ = some (.slice A' zs.length cap) ∧ w'.cell? ⟨w.heap.size, 0, none⟩ = some (.int .i64 x))
              (first | assumption | ((try go_split_ands); refine and_dep ?_ (fun hbX => ⟨cell_old hbX e0, cell_old hbX f0⟩); (with_reducible repeat first | assumption | exact below_old' (by assumption) (by assumption) | refine Below.drew ?_ | refine below_new_old ?_ _ | refine below_set_old ?_ (by exact Nat.le_refl _) _)))
              (first | (go_at_call 18; refine (k1.out _ (IA.out.later (by (try go_split_ands); assumption))).mono ?_; rintro e w' ⟨rfl, hbel⟩; have hbw : Below wr.heap.size wr w' := below_old' hbel (by (try go_split_ands); assumption); obtain ⟨hcc, hff⟩ := bcell hbel))
            all_goals
              go_wp2_with fail
              go_meet
              first
                | with_reducible exact ⟨_, rfl, rfl, Lib.hid (Blk.new _ _ _), Lib.hid hbw.size, Lib.hid (below_new_old hbw _)⟩
                | exact ⟨wr.heap.size, rfl, rfl, Lib.hid (Blk.setRow (((Blk.new wr 43 #[.int .i64 0]).drew).later hbel) [.int .i64 y] rfl), Lib.hid (Nat.le_refl _), Lib.hid (below_setRow (Nat.le_refl _) [.int .i64 y] w' 0 hbw)⟩
          case rest =>
            obtain ⟨g2, rfl, rfl, B2, G2, HB⟩ := hcut
            replace U := Lib.hid (U.out.later HB.out)
            replace B0 := Lib.hid (B0.out.later HB.out)
            replace B1 := Lib.hid (B1.out.later HB.out)
            replace IA := Lib.hid (IA.out.later HB.out)
            clear G2 HB e0 hU f0
            obtain ⟨w1, rfl⟩ : ∃ w1 : World, w1 = wc := ⟨_, rfl⟩
            obtain ⟨_, _, e, hbB', e0⟩ := rows1 (HA.out.keep (fun p hp => U.out.cell hp)) HA5.out
            injection e with e
            injection e with ea eb
            subst ea eb
            simp only at e0
            have f0 := B1.out.at 0 _ rfl
            have hU : Below w1.heap.size w1 w1 := Below.refl _ _
            go_wp2_with fail
            go_cut [10, 11] (fun s10 s11 wx => ∃  (g : Nat), s10 = .pointer (some ⟨g, 0, none⟩) ∧ s11 = .bool bx ∧ Hid (Blk wx g 43 #[.int .i64 y]) ∧ Hid (w1.heap.size ≤ g) ∧ Hid (Below w1.heap.size w1 wx))
            case first =>
              go_region_held3 (fun w' => Below w1.heap.size w1 w' ∧ w'.cell? ⟨b, off + k, none⟩ = some (.slice A' zs.length cap) ∧ w'.cell? ⟨w.heap.size + 1, 0, none⟩ = some (.int .i64 x))
                (first | assumption | ((try go_split_ands); refine and_dep ?_ (fun hbX => ⟨cell_old hbX e0, cell_old hbX f0⟩); (with_reducible repeat first | assumption | exact below_old' (by assumption) (by assumption) | refine Below.drew ?_ | refine below_new_old ?_ _ | refine below_set_old ?_ (by exact Nat.le_refl _) _)))
                (first | (go_at_call 19; refine (k2.out _ (IA.out.later (by (try go_split_ands); assumption))).mono ?_; rintro e w' ⟨rfl, hbel⟩; have hbw : Below w1.heap.size w1 w' := below_old' hbel (by (try go_split_ands); assumption); obtain ⟨hcc, hff⟩ := bcell hbel))
              all_goals
                go_wp2_with fail
                go_meet
                first
                  | with_reducible exact ⟨_, rfl, rfl, Lib.hid (Blk.new _ _ _), Lib.hid hbw.size, Lib.hid (below_new_old hbw _)⟩
                  | exact ⟨w1.heap.size, rfl, rfl, Lib.hid (Blk.setRow (((Blk.new w1 43 #[.int .i64 0]).drew).later hbel) [.int .i64 y] rfl), Lib.hid (Nat.le_refl _), Lib.hid (below_setRow (Nat.le_refl _) [.int .i64 y] w' 0 hbw)⟩
            case rest =>
              obtain ⟨g3, rfl, rfl, B3, G3, HB⟩ := hcut
              replace U := Lib.hid (U.out.later HB.out)
              replace B0 := Lib.hid (B0.out.later HB.out)
              have hne1 := B1.out.lt
              replace B1 := Lib.hid (B1.out.later HB.out)
              replace B2 := Lib.hid (B2.out.later HB.out)
              replace IA := Lib.hid (IA.out.later HB.out)
              clear HB e0 hU f0
              obtain ⟨w2, rfl⟩ : ∃ w2 : World, w2 = wc := ⟨_, rfl⟩
              obtain ⟨_, _, e, hbB', e0⟩ := rows1 (HA.out.keep (fun p hp => U.out.cell hp)) HA5.out
              injection e with e
              injection e with ea eb
              subst ea eb
              simp only at e0
              go_wp2_with fail
              refine (k3.out _ IA.out).mono ?_
              rintro e w3 ⟨rfl, hb3⟩
              replace U := Lib.hid (U.out.later hb3)
              replace B0 := Lib.hid (B0.out.later hb3)
              replace B1 := Lib.hid (B1.out.later hb3)
              replace B2 := Lib.hid (B2.out.later hb3)
              replace B3 := Lib.hid (B3.out.later hb3)
              clear hb3 e0
              have n1 : g3 ≠ w.heap.size := by have := hne1; have := G3.out; omega
              have f0 := B2.out.at 0 _ rfl
              have f1 := B3.out.at 0 _ rfl
              have p0 := B0.out.at 0 _ rfl
              have p1 := B1.out.at 0 _ rfl
              have z0 := B0.out.frozen
              have z1 := B1.out.frozen
              have h01 : w.heap.size ≠ w.heap.size + 1 := by omega
              have h10 : w.heap.size + 1 ≠ w.heap.size := by omega
              clear hne1
              by_cases h60 : L < 60
              · have hy0 : y = 0 := by rw [HY.out, if_pos h60]
                have hbx0 : bx = false := by rw [HBX.out, hy0]; rfl
                subst hbx0
                have HY0 := Lib.hid hy0
                clear hy0
                go_wp2_with fail
                go_roundg (gk - 1)
                case measure => omega
                case rel => exact ⟨k + 1, 0, y, by omega, by omega, by go_num, rfl, Lib.hid (by have := HY0.out; omega), Lib.hid ((B0.out.set_ 0 (.int .i64 y)).far (by simp) _), Lib.hid ((B1.out.far (by simp) _).set_ 0 (.int .i64 y)), Lib.hid ((Below.setCell U.out (by exact Nat.le_refl _) _).setCell (by simp) _)⟩
              · have hy1 : y = min (max x 0) 9 + 1 := by rw [HY.out, if_neg h60]
                have h60' : decide (L < 60) = false := by simpa using h60
                have hr0 : (r + 1 == 0) = false := by rw [beq_eq_false_iff_ne]; omega
                have hfin : (0 ≤ r + 1 ∧ r + 1 ≤ ((k + 1 : Nat) : Int) ∧ min (r + 1) 10 ≤ max y 0 ∧ -9223372036854775808 ≤ y ∧ y ≤ 9223372036854775807) := by omega
                have HF := Lib.hid hfin
                by_cases h10 : r + 1 < 10
                · have hd : decide ((10 : Int) ≤ r + 1) = false := by simp; omega
                  clear hy1 hfin
                  go_wp2_with fail
                  go_roundg (gk - 1)
                  case measure => omega
                  case rel => exact ⟨k + 1, r + 1, y, by omega, by omega, by go_num, rfl, HF, Lib.hid ((B0.out.set_ 0 (.int .i64 y)).far (by simp) _), Lib.hid ((B1.out.far (by simp) _).set_ 0 (.int .i64 y)), Lib.hid ((Below.setCell U.out (by exact Nat.le_refl _) _).setCell (by simp) _)⟩
                · have hd : decide ((10 : Int) ≤ r + 1) = true := by simp; omega
                  have hbx1 : bx = true := by rw [HBX.out, beq_iff_eq]; omega
                  subst hbx1
                  clear hy1 hfin
                  go_wp2_with fail
                  go_roundg (gk - 1)
                  case measure => omega
                  case rel => exact ⟨k + 1, r + 1, y, by omega, by omega, by go_num, rfl, HF, Lib.hid ((B0.out.set_ 0 (.int .i64 y)).far (by simp) _), Lib.hid ((B1.out.far (by simp) _).set_ 0 (.int .i64 y)), Lib.hid ((Below.setCell U.out (by exact Nat.le_refl _) _).setCell (by simp) _)⟩
        · have h100' : (100 : Int) < (zs.length : Int) := by omega
          clear m3 m4 m4'
          go_wp2_with fail
          refine (lives29 _).mono ?_
          rintro e w3 ⟨rfl, hb3⟩
          go_wp2_with fail
          go_ret
          exact ⟨rfl, U.out.later hb3⟩
      · have hi1 : (k : Int) < (l.length : Int) := by omega
        have hi2 : (40 : Int) ≤ (k : Int) := by omega
        go_wp2_with fail
        refine (lives29 _).mono ?_
        rintro e w3 ⟨rfl, hb3⟩
        go_wp2_with fail
        go_ret
        exact ⟨rfl, U.out.later hb3⟩
    · have hi1 : (l.length : Int) ≤ (k : Int) := by omega
      go_wp2_with fail
      refine (lives29 _).mono ?_
      rintro e w3 ⟨rfl, hb3⟩
      go_wp2_with fail
      go_ret
      exact ⟨rfl, U.out.later hb3⟩
theorem walk (w : World) (q : Int) (hq : (⟨q⟩ : TQuiet).ok) (A : Option Addr) (l : List TInts) (c : Nat) (hl : l.length ≤ c) (hc : c ≤ maxLen) (hA : RowsAt w w.heap.size 1 TInts.row A l) (hok : ∀ a ∈ l, a.ok .i16 w) :
    Calls Try.prog 5 #[.agg #[.int .i64 q], .slice A l.length c] w fun e w' => e = .returned (.bool true) ∧ Below w.heap.size w w' := by
  have q3 : -9223372036854775808 ≤ q ∧ q ≤ 9223372036854775807 := by simpa [TQuiet.ok, Lit.wf, IntKind.min, IntKind.max, IntKind.signed, IntKind.bits] using hq
  exact main w q q3.1 q3.2 A l c hl hc hA hok
end Go.Proofs.Ytangooegialmcaa.eventsSilence

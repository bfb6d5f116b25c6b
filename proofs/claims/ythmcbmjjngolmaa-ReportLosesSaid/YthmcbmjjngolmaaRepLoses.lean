/- Layer 26, ReportLoses: for every first number and packets the law returns true. -/
import Derived.Test.YthmcbmjjngolmaaRepLives
import Derived.Test.YthmcbmjjngolmaaRepTypes
import Derived.Test.YthmcbmjjngolmaaRepLosesP
import Derived.Deep.RegionHeld3
namespace Go.Proofs.Ythmcbmjjngolmaa.reportLoses
open Go.RowKit
set_option linter.unusedVariables false
set_option linter.unusedSimpArgs false
attribute [local go_sem ↓] run_min_plain run_max_plain
attribute [local go_sem] setCell_drewN alloc_drewN
theorem info_i64 : (Try.prog.info? 2).map (fun i => (i.zero, i.size, i.bytes)) = some (some (.int .i64 0), 1, 8) := by kernel_rfl
def i64s (l : List Int) : List Value := l.map (Value.int .i64)
theorem own_i64 {w : World} {base c : Nat} {A : Option Addr} {a : List Int} {b : Int} {e : TypeId} (h : Owns w base e 1 A (a.length + 1) c (i64s a ++ [.int .i64 b])) : Owns w base e 1 A (a ++ [b]).length c (i64s (a ++ [b])) := by
  rw [List.length_append]
  show Owns w base e 1 A _ c (List.map _ (a ++ [b]))
  rw [List.map_append]
  exact h
set_option maxRecDepth 100000 in
set_option maxHeartbeats 6400000 in
theorem main (w : World) (first : Int) (f0 : 0 ≤ first) (f1 : first ≤ 4294967295) (A : Option Addr) (bs : List Bool) (cap : Nat) (hl : bs.length ≤ maxLen) (hR : RowsAt w w.heap.size 1 (fun b : Bool => [Value.bool b]) A bs) (t : Nat) (ht : t ≤ 255) :
    Calls Try.prog 4 #[.int .u32 first, .slice A bs.length cap, .int .u8 t] w fun e w' => e = .returned (.bool true) ∧ Below w.heap.size w w' := by
  unfold maxLen at hl
  by_cases h2 : bs.length < 2
  · have h2' : (bs.length : Int) < 2 := by omega
    go_enter Try.func4, Try.ntmps4
    go_wp2_with fail
    refine (lives26 _).mono ?_
    rintro e w1 ⟨rfl, hb1⟩
    go_wp2_with fail
    go_ret
    exact ⟨rfl, hb1⟩
  have h2' : (2 : Int) ≤ (bs.length : Int) := by omega
  by_cases h100 : 100 < bs.length
  · have h100' : (100 : Int) < (bs.length : Int) := by omega
    go_enter Try.func4, Try.ntmps4
    go_wp2_with fail
    refine (lives26 _).mono ?_
    rintro e w1 ⟨rfl, hb1⟩
    go_wp2_with fail
    go_ret
    exact ⟨rfl, hb1⟩
  have h100' : (bs.length : Int) ≤ 100 := by omega
  have HR := Lib.hid hR
  clear hR
  go_enter Try.func4, Try.ntmps4
  go_wp2_with fail
  go_loopg [8, 9] bs.length (fun gk s8 s9 wr => ∃ (k : Nat) (A' : Option Addr) (c' : Nat) (xs : List Int), gk + k = bs.length ∧ s9 = .int .i64 k ∧ s8 = .slice A' xs.length c' ∧ Hid (xs = Rep.came first bs k) ∧ Hid (Owns wr w.heap.size 2 1 A' xs.length c' (i64s xs)) ∧ Hid (Bel w wr))
  case atStart => exact ⟨0, none, 0, [], rfl, rfl, rfl, Lib.hid rfl, Lib.hid Owns.nil, Lib.hid (Bel.refl w)⟩
  case round =>
    obtain ⟨k, A', c', xs, hgk, rfl, rfl, HX, HO, U⟩ := hrel
    have hi0 : (0 : Int) ≤ (k : Int) := by omega
    have hxl : xs.length ≤ 100 := by have := Rep.came_len first bs k; rw [← HX.out] at this; omega
    by_cases hlt : k < bs.length
    · have hi1 : (k : Int) < (bs.length : Int) := by omega
      obtain ⟨bb, hbb⟩ : ∃ b, bs[k]? = some b := ⟨_, List.getElem?_eq_getElem hlt⟩
      have hgd : bs.getD k false = bb := by rw [List.getD_eq_getElem?_getD, hbb]; rfl
      have hcell : ∃ b off, A = some ⟨b, off, none⟩ ∧ b < w.heap.size ∧ w.cell? ⟨b, off + k * 1, none⟩ = some (.bool bb) := by
        obtain ⟨b, off, rfl, hb, hc⟩ := HR.out (by omega)
        exact ⟨b, off, rfl, hb, hc k bb hbb 0 _ rfl⟩
      obtain ⟨b, off, rfl, hbB, q0⟩ := hcell
      have q1 : wr.cell? ⟨b, off + k, none⟩ = some (.bool bb) := by
        have := (U.out.cell (p := ⟨b, off + k * 1, none⟩) hbB).trans q0
        rwa [Nat.mul_one] at this
      have HGD := Lib.hid hgd
      have hws := U.out.size
      clear q0 hbb hgd
      have hn1 : (bs.length : Int) - 1 = ((bs.length - 1 : Nat) : Int) := by omega
      have HN1 := Lib.hid hn1
      clear hn1
      cases bb
      rotate_left
      · have HT : Hid ((bs.getD k false || k == 0 || k == bs.length - 1) = true) := Lib.hid (by rw [HGD.out]; rfl)
        go_wp2_with (at_builtin; go_loud (refine wpList_append_at rfl _ _ 36 rfl w.heap.size 2 1 8 (.int .i64 0) Try.underlying36 info_i64 rfl (by decide) A' xs.length c' (i64s xs) rfl HO.out [.int .i64 (first + (k : Int))] rfl (by simp [Value.oneCell']) rfl (by unfold maxLen; omega) (by omega) hws ?_); intro An cn wn hown hgr hat)
        go_roundg (gk - 1)
        case measure => omega
        case rel =>
          have hx : xs ++ [first + (k : Int)] = Rep.came first bs (k + 1) := by
            rw [Rep.came_step, if_pos (HT.out), HX.out]
          exact ⟨k + 1, An, cn, xs ++ [first + (k : Int)], by omega, by go_num, by rw [List.length_append]; rfl, Lib.hid hx, Lib.hid (own_i64 hown), Lib.hid (U.out.grown hgr hws (fun g e => (HO.out.block g e).1))⟩
      by_cases h0 : k = 0
      · have e0 : ((k : Int) == 0) = true := by rw [beq_iff_eq]; omega
        have HT : Hid ((bs.getD k false || k == 0 || k == bs.length - 1) = true) := Lib.hid (by rw [HGD.out]; simp [h0])
        clear h0
        go_wp2_with (at_builtin; go_loud (refine wpList_append_at rfl _ _ 36 rfl w.heap.size 2 1 8 (.int .i64 0) Try.underlying36 info_i64 rfl (by decide) A' xs.length c' (i64s xs) rfl HO.out [.int .i64 (first + (k : Int))] rfl (by simp [Value.oneCell']) rfl (by unfold maxLen; omega) (by omega) hws ?_); intro An cn wn hown hgr hat)
        go_roundg (gk - 1)
        case measure => omega
        case rel =>
          have hx : xs ++ [first + (k : Int)] = Rep.came first bs (k + 1) := by
            rw [Rep.came_step, if_pos (HT.out), HX.out]
          exact ⟨k + 1, An, cn, xs ++ [first + (k : Int)], by omega, by go_num, by rw [List.length_append]; rfl, Lib.hid hx, Lib.hid (own_i64 hown), Lib.hid (U.out.grown hgr hws (fun g e => (HO.out.block g e).1))⟩
      have e0 : ((k : Int) == 0) = false := by rw [beq_eq_false_iff_ne]; omega
      by_cases h1 : k = bs.length - 1
      · have e1 : ((k : Int) == (bs.length : Int) - 1) = true := by rw [beq_iff_eq]; omega
        have HT : Hid ((bs.getD k false || k == 0 || k == bs.length - 1) = true) := Lib.hid (by rw [HGD.out, ← h1]; simp)
        clear h1
        go_wp2_with (at_builtin; go_loud (refine wpList_append_at rfl _ _ 36 rfl w.heap.size 2 1 8 (.int .i64 0) Try.underlying36 info_i64 rfl (by decide) A' xs.length c' (i64s xs) rfl HO.out [.int .i64 (first + (k : Int))] rfl (by simp [Value.oneCell']) rfl (by unfold maxLen; omega) (by omega) hws ?_); intro An cn wn hown hgr hat)
        go_roundg (gk - 1)
        case measure => omega
        case rel =>
          have hx : xs ++ [first + (k : Int)] = Rep.came first bs (k + 1) := by
            rw [Rep.came_step, if_pos (HT.out), HX.out]
          exact ⟨k + 1, An, cn, xs ++ [first + (k : Int)], by omega, by go_num, by rw [List.length_append]; rfl, Lib.hid hx, Lib.hid (own_i64 hown), Lib.hid (U.out.grown hgr hws (fun g e => (HO.out.block g e).1))⟩
      have e1 : ((k : Int) == (bs.length : Int) - 1) = false := by rw [beq_eq_false_iff_ne]; omega
      have HT : Hid (¬(bs.getD k false || k == 0 || k == bs.length - 1) = true) := Lib.hid (by rw [HGD.out]; simp [h0, h1])
      clear h0 h1
      go_wp2_with fail
      go_roundg (gk - 1)
      case measure => omega
      case rel => exact ⟨k + 1, A', c', xs, by omega, by go_num, rfl, Lib.hid (by rw [Rep.came_step, if_neg HT.out]; exact HX.out), HO, U⟩
    · obtain rfl : k = bs.length := by omega
      have hi1 : (bs.length : Int) ≤ (bs.length : Int) := Int.le_refl _
      obtain ⟨hm0, hend⟩ := Rep.lost_end first bs t f0 f1 (by omega) (by omega)
      have hmn := Rep.came_len first bs bs.length
      have hmem := fun x hx => Rep.came_mem first bs bs.length x hx
      rw [← HX.out] at hm0 hend hmn hmem
      have hz := Rep.sum_one first bs.length xs.length f0 f1 (by omega) (by omega) hmn
      have hz2 := Rep.sum_two first bs.length xs.length f0 f1 (by omega) (by omega) hmn
      have HM := Lib.hid hmem
      have HE := Lib.hid hend
      have HZ := Lib.hid hz
      have HZ2 := Lib.hid hz2
      have I := Lib.hid (show IntsAt wr wr.heap.size .i64 A' xs from IntsAt.of_own HO.out)
      clear hmem hend hz hz2 HX HO
      have hm0' : (0 : Int) < (xs.length : Int) := by omega
      have hm1' : (xs.length : Int) ≤ 100 := by omega
      obtain ⟨W1, hW1⟩ : ∃ W, W = wr := ⟨_, rfl⟩
      subst hW1
      have U1 := Lib.hid ((Bel.refl W1).push (.cells #[.bool false, .int .i64 0, .int .i64 0, .int .i64 0, .int .i64 0, .int .i64 0, .int .i64 0, .int .i64 0] 23))
      have G := Lib.hid (Blk.new W1 23 #[.bool false, .int .i64 0, .int .i64 0, .int .i64 0, .int .i64 0, .int .i64 0, .int .i64 0, .int .i64 0])
      go_wp2_with fail
      go_loopg [11] xs.length (fun gk s11 wr => ∃ (k : Nat) (x0 : Bool) (x1 x2 x3 x4 x5 x6 x7 : Int), gk + k = xs.length ∧ s11 = .int .i64 k ∧ Hid ((⟨x0, x1, x2, x3, x4, x5, x6, x7⟩ : Rep.St) = Rep.lost xs t k) ∧ Hid (Blk wr W1.heap.size 23 #[.bool x0, .int .i64 x1, .int .i64 x2, .int .i64 x3, .int .i64 x4, .int .i64 x5, .int .i64 x6, .int .i64 x7]) ∧ Hid (Bel W1 wr))
      case atStart => exact ⟨0, false, 0, 0, 0, 0, 0, 0, 0, rfl, rfl, Lib.hid rfl, G, U1⟩
      case round =>
        clear G U1
        obtain ⟨k, x0, x1, x2, x3, x4, x5, x6, x7, hgz, rfl, HS, G, U1⟩ := hrel
        have hk0 : (0 : Int) ≤ (k : Int) := by omega
        by_cases hlm : k < xs.length
        · have hk1 : (k : Int) < (xs.length : Int) := by omega
          obtain ⟨q, hq⟩ : ∃ q, q = (k + t) % xs.length := ⟨_, rfl⟩
          have hqm : q < xs.length := by rw [hq]; exact Nat.mod_lt _ hm0
          have hqi : ((k : Int) + (t : Int)) % (xs.length : Int) = (q : Int) := by rw [hq]; rfl
          have hqt : ((k : Int) + (t : Int)).tmod (xs.length : Int) = (q : Int) := by rw [Int.tmod_eq_emod_of_nonneg (by omega)]; exact hqi
          obtain ⟨b, off, rfl, hbB, hcell⟩ := I.out (by omega)
          have q1 : wr.cell? ⟨b, off + q, none⟩ = some (.int .i64 (xs.getD q 0)) := (U1.out.cell (p := ⟨b, off + q, none⟩) hbB).trans (hcell q hqm)
          have hxq := HM.out (xs.getD q 0) (by rw [List.getD_eq_getElem?_getD, List.getElem?_eq_getElem hqm]; exact List.getElem_mem hqm)
          have hst : Rep.lost xs t (k + 1) = Rep.arrive (Rep.lost xs t k) (xs.getD q 0) (8 * xs.getD q 0 + 5) (8 * xs.getD q 0) := by rw [hq]; rfl
          rw [← HS.out] at hst
          generalize xs.getD q 0 = x at *
          have ka := fun W => Arrive_any x0 x1 x2 x3 x4 x5 x6 x7 W x (8 * x + 5) (8 * x)
          rw [← hst] at ka
          obtain ⟨y, hy⟩ : ∃ y, y = Rep.lost xs t (k + 1) := ⟨_, rfl⟩
          rw [← hy] at ka
          obtain ⟨y0, y1, y2, y3, y4, y5, y6, y7⟩ := y
          simp only [Rep.St.row] at ka
          have KA := Lib.hid ka
          have HY := Lib.hid hy
          have hx0 : 0 ≤ x := by omega
          have hx1 : x ≤ 5000000000 := by omega
          have hq0 : (0 : Int) ≤ (q : Int) := by omega
          have hq1 : (q : Int) < (xs.length : Int) := by omega
          clear ka hy hst hxq hcell hq HS
          have g0 := G.out.at 0 _ rfl
          have g1 := G.out.at 1 _ rfl
          have g2 := G.out.at 2 _ rfl
          have g3 := G.out.at 3 _ rfl
          have g4 := G.out.at 4 _ rfl
          have g5 := G.out.at 5 _ rfl
          have g6 := G.out.at 6 _ rfl
          have g7 := G.out.at 7 _ rfl
          go_wp2_with fail
          clear g0 g1 g2 g3 g4 g5 g6 g7
          refine (KA.out _).mono ?_
          rintro e wy ⟨rfl, hb⟩
          have G' := Lib.hid (G.out.later hb)
          have U' := Lib.hid (U1.out.later hb)
          clear hb G U1
          have g0 := G'.out.at 0 _ rfl
          have g1 := G'.out.at 1 _ rfl
          have g2 := G'.out.at 2 _ rfl
          have g3 := G'.out.at 3 _ rfl
          have g4 := G'.out.at 4 _ rfl
          have g5 := G'.out.at 5 _ rfl
          have g6 := G'.out.at 6 _ rfl
          have g7 := G'.out.at 7 _ rfl
          have z := G'.out.frozen
          go_wp2_with fail
          have G2 := Lib.hid (G'.out.setRow [.bool y0, .int .i64 y1, .int .i64 y2, .int .i64 y3, .int .i64 y4, .int .i64 y5, .int .i64 y6, .int .i64 y7] rfl)
          have U2 : Hid (Bel W1 _) := Lib.hid (below_setRow (g := W1.heap.size) (Nat.le_refl _) [.bool y0, .int .i64 y1, .int .i64 y2, .int .i64 y3, .int .i64 y4, .int .i64 y5, .int .i64 y6, .int .i64 y7] _ 0 U'.out)
          simp only [setRow, Nat.zero_add, Nat.reduceAdd] at G2 U2
          go_roundg (gk - 1)
          case measure => omega
          case rel => exact ⟨k + 1, y0, y1, y2, y3, y4, y5, y6, y7, by omega, by go_num, HY, G2, U2⟩
        · obtain rfl : k = xs.length := by omega
          have hk1 : (xs.length : Int) ≤ (xs.length : Int) := Int.le_refl _
          have hs := HS.out
          rw [HE.out] at hs
          simp only [Rep.St.mk.injEq] at hs
          obtain ⟨e0, e1, e2, e3, e4, e5, e6, e7⟩ := hs
          rw [e0, e1, e2, e3, e4, e5, e6, e7] at G
          clear e0 e1 e2 e3 e4 e5 e6 e7 HS
          have k1 := fun W => Summary_any true first (first + (bs.length : Int) - 1) (xs.length : Int) 0 0 5 0 W 1 2 3
          have k2 := fun W => Summary_any true first (first + (bs.length : Int) - 1) (xs.length : Int) (bs.length : Int) (xs.length : Int) 5 0 W 1 2 3
          rw [HZ.out] at k1
          rw [HZ2.out] at k2
          simp only [Rep.Bk.row, Rep.St.row] at k1 k2
          obtain ⟨wa, hwa⟩ : ∃ x, x = (bs.length : Int) - (xs.length : Int) := ⟨_, rfl⟩
          obtain ⟨F0, hF0⟩ : ∃ x, x = 256 * wa / (bs.length : Int) := ⟨_, rfl⟩
          obtain ⟨F1, hF1⟩ : ∃ x, x = min F0 255 := ⟨_, rfl⟩
          obtain ⟨hi, hhi⟩ : ∃ x, x = (first + (bs.length : Int) - 1) % 4294967296 := ⟨_, rfl⟩
          obtain ⟨hq, hhq⟩ : ∃ x, x = first + (bs.length : Int) - 1 := ⟨_, rfl⟩
          have hw0 : 0 ≤ wa := by omega
          have hw1 : wa ≤ 100 := by omega
          have hFn : 0 ≤ F0 := by rw [hF0]; exact Int.ediv_nonneg (by omega) (by omega)
          have hFm : F0 ≤ 25600 := by have := Int.ediv_le_self (a := 256 * wa) (bs.length : Int) (by omega); omega
          have hF0' : 0 ≤ F1 := by omega
          have hF1' : F1 ≤ 255 := by omega
          rw [← hwa, ← hF0, ← hF1, ← hhi, ← hhq] at k1
          rw [← hwa, ← hhi, ← hhq] at k2
          have r1 := hwa.symm
          have r2 : (256 * wa).tdiv (bs.length : Int) = F0 := by rw [Int.tdiv_eq_ediv_of_nonneg (by omega)]; exact hF0.symm
          have r3 := hF0.symm
          have r4 := hF1.symm
          have r5 : (first + (bs.length : Int) - 1) % 4294967296 = hi := hhi.symm
          rw [← hhq] at G r5
          have r6 := hhq.symm
          have hn0 : ¬((bs.length : Int) = 0) := by omega
          have hn00 : ((bs.length : Int) == 0) = false := by rw [beq_eq_false_iff_ne]; omega
          have hv1 := i64_small F0 (by omega) (by omega)
          have hv2 : wrap64 F0 = F0 := IntWalk.wrap64_in _ ⟨by omega, by omega⟩
          have hv3 := i64_small (256 * wa) (by omega) (by omega)
          have hv5 := i64_small F1 (by omega) (by omega)
          have hv6 := i64_small first (by omega) (by omega)
          have hv7 := i64_small (first + (bs.length : Int)) (by omega) (by omega)
          have hv9 := i64_small hq (by omega) (by omega)
          have hv8 : IntKind.u32.wrap hq = hi := by rw [u32_wrap]; exact r5
          have hv4 : wrap64 (256 * wa) = 256 * wa := IntWalk.wrap64_in _ ⟨by omega, by omega⟩
          have hn2 : ¬bs.length = 0 := by omega
          have hn3 : ¬bs = [] := by intro h; rw [h] at hn2; exact hn2 rfl
          have K1 := Lib.hid k1
          have K2 := Lib.hid k2
          clear k1 k2 hwa hF0 hF1 hhi hhq HE HZ HZ2 HM I hmn
          have U2 := Lib.hid (U.out.trans (U1.out.mono U.out.size))
          clear U U1
          have U : Hid (Bel w wr) := Lib.hid U2.out
          clear U2
          have c_G0 := G.out.at 0 _ rfl
          have c_G1 := G.out.at 1 _ rfl
          have c_G2 := G.out.at 2 _ rfl
          have c_G3 := G.out.at 3 _ rfl
          have c_G4 := G.out.at 4 _ rfl
          have c_G5 := G.out.at 5 _ rfl
          have c_G6 := G.out.at 6 _ rfl
          have c_G7 := G.out.at 7 _ rfl
          go_wp2_with fail
          clear c_G0 c_G1 c_G2 c_G3 c_G4 c_G5 c_G6 c_G7
          refine (K1.out _).mono ?_
          rintro e w11 ⟨rfl, hb11⟩
          replace U := Lib.hid (U.out.later hb11)
          replace G := Lib.hid (G.out.later hb11)
          clear hb11
          have hgG := G.out.lt
          replace U := Lib.hid (U.out.push (.cells #[.int .u32 1, .int .u8 F1, .int .i64 wa, .int .u32 hi, .int .u32 0, .int .u32 2, .int .u32 3] 27))
          replace G := Lib.hid (G.out.push (.cells #[.int .u32 1, .int .u8 F1, .int .i64 wa, .int .u32 hi, .int .u32 0, .int .u32 2, .int .u32 3] 27))
          have B := Lib.hid (Blk.new w11 27 #[.int .u32 1, .int .u8 F1, .int .i64 wa, .int .u32 hi, .int .u32 0, .int .u32 2, .int .u32 3])
          replace U := Lib.hid (U.out.push (.cells #[.bool true, .int .i64 first, .int .i64 hq, .int .i64 (xs.length : Int), .int .i64 (bs.length : Int), .int .i64 (xs.length : Int), .int .i64 5, .int .i64 0] 23))
          replace G := Lib.hid (G.out.push (.cells #[.bool true, .int .i64 first, .int .i64 hq, .int .i64 (xs.length : Int), .int .i64 (bs.length : Int), .int .i64 (xs.length : Int), .int .i64 5, .int .i64 0] 23))
          replace B := Lib.hid (B.out.push (.cells #[.bool true, .int .i64 first, .int .i64 hq, .int .i64 (xs.length : Int), .int .i64 (bs.length : Int), .int .i64 (xs.length : Int), .int .i64 5, .int .i64 0] 23))
          have B2 := Lib.hid (Blk.new1 w11 (.cells #[.int .u32 1, .int .u8 F1, .int .i64 wa, .int .u32 hi, .int .u32 0, .int .u32 2, .int .u32 3] 27) 23 #[.bool true, .int .i64 first, .int .i64 hq, .int .i64 (xs.length : Int), .int .i64 (bs.length : Int), .int .i64 (xs.length : Int), .int .i64 5, .int .i64 0])
          have c_B20 := B2.out.at 0 _ rfl
          have c_B21 := B2.out.at 1 _ rfl
          have c_B22 := B2.out.at 2 _ rfl
          have c_B23 := B2.out.at 3 _ rfl
          have c_B24 := B2.out.at 4 _ rfl
          have c_B25 := B2.out.at 5 _ rfl
          have c_B26 := B2.out.at 6 _ rfl
          have c_B27 := B2.out.at 7 _ rfl
          go_wp2_with fail
          clear c_B20 c_B21 c_B22 c_B23 c_B24 c_B25 c_B26 c_B27
          refine (K2.out _).mono ?_
          rintro e w12 ⟨rfl, hb12⟩
          replace U := Lib.hid (U.out.later hb12)
          replace G := Lib.hid (G.out.later hb12)
          replace B := Lib.hid (B.out.later hb12)
          replace B2 := Lib.hid (B2.out.later hb12)
          clear hb12
          have hgB := B2.out.lt
          clear B2
          replace U := Lib.hid (U.out.push (.cells #[.int .u32 1, .int .u8 0, .int .i64 wa, .int .u32 hi, .int .u32 0, .int .u32 2, .int .u32 3] 27))
          replace G := Lib.hid (G.out.push (.cells #[.int .u32 1, .int .u8 0, .int .i64 wa, .int .u32 hi, .int .u32 0, .int .u32 2, .int .u32 3] 27))
          replace B := Lib.hid (B.out.push (.cells #[.int .u32 1, .int .u8 0, .int .i64 wa, .int .u32 hi, .int .u32 0, .int .u32 2, .int .u32 3] 27))
          have C := Lib.hid (Blk.new w12 27 #[.int .u32 1, .int .u8 0, .int .i64 wa, .int .u32 hi, .int .u32 0, .int .u32 2, .int .u32 3])
          replace U := Lib.hid (U.out.push (.cells #[.bool true, .int .i64 first, .int .i64 hq, .int .i64 (xs.length : Int), .int .i64 (bs.length : Int), .int .i64 (xs.length : Int), .int .i64 5, .int .i64 0] 23))
          replace G := Lib.hid (G.out.push (.cells #[.bool true, .int .i64 first, .int .i64 hq, .int .i64 (xs.length : Int), .int .i64 (bs.length : Int), .int .i64 (xs.length : Int), .int .i64 5, .int .i64 0] 23))
          replace B := Lib.hid (B.out.push (.cells #[.bool true, .int .i64 first, .int .i64 hq, .int .i64 (xs.length : Int), .int .i64 (bs.length : Int), .int .i64 (xs.length : Int), .int .i64 5, .int .i64 0] 23))
          replace C := Lib.hid (C.out.push (.cells #[.bool true, .int .i64 first, .int .i64 hq, .int .i64 (xs.length : Int), .int .i64 (bs.length : Int), .int .i64 (xs.length : Int), .int .i64 5, .int .i64 0] 23))
          go_wp2_with fail
          have hU : Below w.heap.size w _ := U.out
          have c_G0 := G.out.at 0 _ rfl
          have c_G1 := G.out.at 1 _ rfl
          have c_G2 := G.out.at 2 _ rfl
          have c_G3 := G.out.at 3 _ rfl
          have c_G4 := G.out.at 4 _ rfl
          have c_G5 := G.out.at 5 _ rfl
          have c_G6 := G.out.at 6 _ rfl
          have c_G7 := G.out.at 7 _ rfl
          have c_B0 := B.out.at 0 _ rfl
          have c_B1 := B.out.at 1 _ rfl
          have c_B2 := B.out.at 2 _ rfl
          have c_B3 := B.out.at 3 _ rfl
          have c_B4 := B.out.at 4 _ rfl
          have c_B5 := B.out.at 5 _ rfl
          have c_B6 := B.out.at 6 _ rfl
          have c_C0 := C.out.at 0 _ rfl
          have c_C1 := C.out.at 1 _ rfl
          have c_C2 := C.out.at 2 _ rfl
          have c_C3 := C.out.at 3 _ rfl
          have c_C4 := C.out.at 4 _ rfl
          have c_C5 := C.out.at 5 _ rfl
          have c_C6 := C.out.at 6 _ rfl
          clear U G B C
          go_region_held3 (fun w' => Below w.heap.size w w' ∧ w'.cell? ⟨W1.heap.size, 0, none⟩ = some (.bool true) ∧ w'.cell? ⟨W1.heap.size, 1, none⟩ = some (.int .i64 first) ∧ w'.cell? ⟨W1.heap.size, 2, none⟩ = some (.int .i64 hq) ∧ w'.cell? ⟨W1.heap.size, 3, none⟩ = some (.int .i64 (xs.length : Int)) ∧ w'.cell? ⟨W1.heap.size, 4, none⟩ = some (.int .i64 0) ∧ w'.cell? ⟨W1.heap.size, 5, none⟩ = some (.int .i64 0) ∧ w'.cell? ⟨W1.heap.size, 6, none⟩ = some (.int .i64 5) ∧ w'.cell? ⟨W1.heap.size, 7, none⟩ = some (.int .i64 0) ∧ w'.cell? ⟨w11.heap.size, 0, none⟩ = some (.int .u32 1) ∧ w'.cell? ⟨w11.heap.size, 1, none⟩ = some (.int .u8 F1) ∧ w'.cell? ⟨w11.heap.size, 2, none⟩ = some (.int .i64 wa) ∧ w'.cell? ⟨w11.heap.size, 3, none⟩ = some (.int .u32 hi) ∧ w'.cell? ⟨w11.heap.size, 4, none⟩ = some (.int .u32 0) ∧ w'.cell? ⟨w11.heap.size, 5, none⟩ = some (.int .u32 2) ∧ w'.cell? ⟨w11.heap.size, 6, none⟩ = some (.int .u32 3) ∧ w'.cell? ⟨w12.heap.size, 0, none⟩ = some (.int .u32 1) ∧ w'.cell? ⟨w12.heap.size, 1, none⟩ = some (.int .u8 0) ∧ w'.cell? ⟨w12.heap.size, 2, none⟩ = some (.int .i64 wa) ∧ w'.cell? ⟨w12.heap.size, 3, none⟩ = some (.int .u32 hi) ∧ w'.cell? ⟨w12.heap.size, 4, none⟩ = some (.int .u32 0) ∧ w'.cell? ⟨w12.heap.size, 5, none⟩ = some (.int .u32 2) ∧ w'.cell? ⟨w12.heap.size, 6, none⟩ = some (.int .u32 3))
            (first | assumption | ((try go_split_ands); (repeat' apply And.intro) <;> first | (exact below_old' (by assumption) (by assumption)) | (exact Below.drew (by assumption)) | (exact cell_old (by assumption) (by assumption)) | (exact below_new_old (by assumption) _) | (exact cell_new_old (by assumption) _) | assumption))
            (first
              | (go_at_call 14; refine (lives26 _).mono ?_; rintro e w' ⟨rfl, hbel⟩))
          all_goals go_wp2
          all_goals go_ret
          all_goals ((try go_split_ands); exact ⟨by simp, by assumption⟩)
theorem walk (w : World) (first : Int) (w1 : (Lit.int .u32 first).wf = true) (A : Option Addr) (bs : List Bool) (cap : Nat) (hl : bs.length ≤ cap) (hm : cap ≤ maxLen) (hR : RowsAt w w.heap.size 1 (fun b : Bool => [Value.bool b]) A bs) (t : Int) (w2 : (Lit.int .u8 t).wf = true) :
    Calls Try.prog 4 #[.int .u32 first, .slice A bs.length cap, .int .u8 t] w fun e w' => e = .returned (.bool true) ∧ Below w.heap.size w w' := by
  have q1 : 0 ≤ first ∧ first ≤ 4294967295 := by simpa [Lit.wf, IntKind.min, IntKind.max, IntKind.signed, IntKind.bits] using w1
  have q2 : 0 ≤ t ∧ t ≤ 255 := by simpa [Lit.wf, IntKind.min, IntKind.max, IntKind.signed, IntKind.bits] using w2
  obtain ⟨n, rfl⟩ := Int.eq_ofNat_of_zero_le q2.1
  exact main w first q1.1 q1.2 A bs cap (Nat.le_trans hl hm) hR n (by omega)
end Go.Proofs.Ythmcbmjjngolmaa.reportLoses

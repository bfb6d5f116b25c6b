/- Layer 26: Same of equal lists. -/
import Derived.Test.YthmcbmjjngolmaaRepFew
import Derived.Deep.CutRange
import Derived.Deep.DeepCutAuto
namespace Go.Proofs.Ythmcbmjjngolmaa
open Go.RowKit
set_option linter.unusedVariables false
set_option linter.unusedSimpArgs false
attribute [local go_sem ↓] run_min_plain run_max_plain
attribute [local go_sem] setCell_drewN alloc_drewN
set_option maxRecDepth 100000 in
set_option maxHeartbeats 3200000 in
theorem rSame_any (A1 A2 : Option Addr) (l1 l2 : List TR) (c1 c2 : Nat) (w : World) (n : Nat) (hn : l1.length = n) (heq : l1.map TR.r = l2.map TR.r) (h1 : Rpts w w.heap.size A1 l1) (h2 : Rpts w w.heap.size A2 l2) (hm : n ≤ 1000000) (hb : ∀ a ∈ l1, a.r.blocks.length ≤ 1000000) : Calls Try.prog 26 #[.slice A1 n c1, .slice A2 n c2] w fun e w' => e = .returned (.bool true) ∧ Below w.heap.size w w' := by
  subst hn
  have hlen : l2.length = l1.length := by
    have := congrArg List.length heq
    simpa using this.symm
  have H1 := Lib.hid h1
  have H2 := Lib.hid h2
  have HQ := Lib.hid heq
  have HB := Lib.hid hb
  have HL := Lib.hid hlen
  clear h1 h2 heq hb hlen
  go_enter Try.func26, Try.ntmps26
  go_wp2_with fail
  go_loopg [5] l1.length (fun gk i wr => ∃ k : Nat, gk + k = l1.length ∧ i = .int .i64 k ∧ Hid (Bel w wr))
  case atStart => exact ⟨0, rfl, rfl, Lib.hid (Bel.refl w)⟩
  case round =>
    obtain ⟨k, hgk, rfl, U⟩ := hrel
    have hi0 : (0 : Int) ≤ (k : Int) := by omega
    by_cases hlt : k < l1.length
    rotate_left
    · obtain rfl : k = l1.length := by omega
      have hi1 : (l1.length : Int) ≤ (l1.length : Int) := Int.le_refl _
      go_wp2_with fail
      go_ret
      exact ⟨rfl, U.out⟩
    have hi1 : (k : Int) < (l1.length : Int) := by omega
    obtain ⟨a, ha⟩ : ∃ a, l1[k]? = some a := ⟨_, List.getElem?_eq_getElem hlt⟩
    obtain ⟨a', ha'⟩ : ∃ a', l2[k]? = some a' := ⟨_, List.getElem?_eq_getElem (by have := HL.out; omega)⟩
    have har : a.r = a'.r := by
      have h3 := congrArg (fun l => l[k]?) HQ.out
      simp only [List.getElem?_map, ha, ha', Option.map_some] at h3
      injection h3
    obtain ⟨b, off, rfl, hbB, e0, e1, e2, e3, e4, e5, e6⟩ := rowsT (H1.out.1.keep (fun p hp => U.out.cell hp)) ha
    obtain ⟨b', off', rfl, hbB', f0, f1, f2, f3, f4, f5, f6⟩ := rowsT (H2.out.1.keep (fun p hp => U.out.cell hp)) ha'
    have hr1 := H1.out.2 a (List.mem_of_getElem? ha)
    have hr2 := H2.out.2 a' (List.mem_of_getElem? ha')
    have hbl := HB.out a (List.mem_of_getElem? ha)
    obtain ⟨r, B1, k1⟩ := a
    obtain ⟨r', B2, k2⟩ := a'
    simp only at har e0 e1 e2 e3 e4 e5 e6 f0 f1 f2 f3 f4 f5 f6 hr1 hr2 hbl
    subst har
    obtain ⟨s, so, cl, ti, pa, oc, bl⟩ := r
    simp only at e0 e1 e2 e3 e4 e5 e6 f0 f1 f2 f3 f4 f5 f6 hr1 hr2 hbl
    have HR1 := Lib.hid hr1
    have HR2 := Lib.hid hr2
    clear ha ha' hr1 hr2
    have hbw : b < wr.heap.size := Nat.lt_of_lt_of_le hbB U.out.size
    have hbw' : b' < wr.heap.size := Nat.lt_of_lt_of_le hbB' U.out.size
    have hbx : b < wr.heap.size + 1 := by omega
    have hbx' : b' < wr.heap.size + 1 := by omega
    go_wp2_with fail
    go_cut [6, 7] (fun s6 s7 wx => ∃ (g6 g7 : Nat), s6 = .pointer (some ⟨g6, 0, none⟩) ∧ s7 = .pointer (some ⟨g7, 0, none⟩) ∧ Hid (Blk wx g6 47 #[.bool s, .int .u32 so, .int .u64 cl, .int .u32 ti, .int .u32 pa, .int .u32 oc, .slice B1 bl.length k1]) ∧ Hid (Blk wx g7 47 #[.bool s, .int .u32 so, .int .u64 cl, .int .u32 ti, .int .u32 pa, .int .u32 oc, .slice B2 bl.length k2]) ∧ Hid (Bel w wx))
    case first =>
      go_region
      all_goals
        go_wp2_with fail
        go_meet
        first
          | with_reducible exact ⟨_, _, rfl, rfl, Lib.hid ((Blk.new wr _ _).push _).drew, Lib.hid (Blk.new1 wr _ _ _).drew, Lib.hid ((U.out.push _).push _).drew⟩
          | with_reducible exact ⟨_, _, rfl, rfl, Lib.hid (Blk.new1 wr _ _ _).drew, Lib.hid ((Blk.new wr _ _).push _).drew, Lib.hid ((U.out.push _).push _).drew⟩
    case rest =>
      obtain ⟨g6, g7, rfl, rfl, G6, G7, U'⟩ := hcut
      clear e0 e1 e2 e3 e4 e5 e6 f0 f1 f2 f3 f4 f5 f6 U
      have U := U'
      clear U'
      have hbl' : (bl.length : Int) ≤ 1000000 := by omega
      have c0 := G6.out.at 0 _ rfl
      have c1 := G6.out.at 1 _ rfl
      have c2 := G6.out.at 2 _ rfl
      have c3 := G6.out.at 3 _ rfl
      have c4 := G6.out.at 4 _ rfl
      have c5 := G6.out.at 5 _ rfl
      have c6 := G6.out.at 6 _ rfl
      have d0 := G7.out.at 0 _ rfl
      have d1 := G7.out.at 1 _ rfl
      have d2 := G7.out.at 2 _ rfl
      have d3 := G7.out.at 3 _ rfl
      have d4 := G7.out.at 4 _ rfl
      have d5 := G7.out.at 5 _ rfl
      have d6 := G7.out.at 6 _ rfl
      go_wp2_with fail
      clear c0 d0 c1 d1 c2 d2 c3 d3 c4 d4 c5 d5 c6 d6
      obtain ⟨g0, rfl⟩ : ∃ g0, g0 = gk := ⟨_, rfl⟩
      go_loopg [8] bl.length (fun gk i wz => ∃ m : Nat, gk + m = bl.length ∧ i = .int .i64 m ∧ Hid (Blk wz g6 47 #[.bool s, .int .u32 so, .int .u64 cl, .int .u32 ti, .int .u32 pa, .int .u32 oc, .slice B1 bl.length k1]) ∧ Hid (Blk wz g7 47 #[.bool s, .int .u32 so, .int .u64 cl, .int .u32 ti, .int .u32 pa, .int .u32 oc, .slice B2 bl.length k2]) ∧ Hid (Bel w wz))
      case atStart => exact ⟨0, rfl, rfl, G6, G7, U⟩
      case round =>
        clear G6 G7 U
        obtain ⟨m, hgm, rfl, G6, G7, U⟩ := hrel
        have hm0 : (0 : Int) ≤ (m : Int) := by omega
        have c6 := G6.out.at 6 _ rfl
        have d6 := G7.out.at 6 _ rfl
        by_cases hlm : m < bl.length
        · obtain ⟨x, hx⟩ : ∃ x, bl[m]? = some x := ⟨_, List.getElem?_eq_getElem hlm⟩
          obtain ⟨p, po, rfl, hpB, y0, y1, y2, y3, y4, y5, y6⟩ := rowsB (HR1.out.keep (fun p hp => U.out.cell hp)) hx
          obtain ⟨q, qo, rfl, hqB, z0, z1, z2, z3, z4, z5, z6⟩ := rowsB (HR2.out.keep (fun p hp => U.out.cell hp)) hx
          have hm1 : (m : Int) < (bl.length : Int) := by omega
          go_wp2_with fail
          go_quiet (fail)
          go_wp2_with fail
          go_roundg (gk - 1)
          case measure => omega
          case rel => exact ⟨m + 1, by omega, by go_num, Lib.hid (G6.out.drewN _), Lib.hid (G7.out.drewN _), Lib.hid (U.out.drewN _)⟩
        · obtain rfl : m = bl.length := by omega
          have hm1 : (bl.length : Int) ≤ (bl.length : Int) := Int.le_refl _
          go_wp2_with fail
          go_roundg (g0 - 1)
          case measure => omega
          case rel => exact ⟨k + 1, by omega, by go_num, U⟩
end Go.Proofs.Ythmcbmjjngolmaa

/- Layer 25, PacketTracks: for every track and numbers the law returns true. -/
import Derived.Test.YtbpcpgmbfnmacaaPkLives
import Derived.Test.YtbpcpgmbfnmacaaPkTypes
import Derived.Test.YtbpcpgmbfnmacaaLate
import Derived.Deep.RegionHeld3
import Derived.Deep.CutRange
import Derived.Deep.DeepCutAuto
namespace Go.Proofs.Ytbpcpgmbfnmacaa.packetTracks
open Go.RowKit
set_option linter.unusedVariables false
set_option linter.unusedSimpArgs false
attribute [local go_sem ↓] run_min_plain run_max_plain
attribute [local go_sem] setCell_drewN alloc_drewN
theorem follow_bd (t : Pk.Tr) (q : Int) (q0 : 0 ≤ q) (q1 : q ≤ 65535) : -1 ≤ (Pk.follow t q).1.high ∧ (Pk.follow t q).1.high ≤ 281474976800000 ∧ -1 ≤ (Pk.follow t q).1.jump ∧ (Pk.follow t q).1.jump ≤ 65535 := by
  unfold Pk.follow
  by_cases h1 : ¬t.ok
  · rw [if_pos h1]; simp [Pk.Tr.zero]
  rw [if_neg h1]
  have h2 : t.ok := Classical.not_not.1 h1
  obtain ⟨a1, a2, a3, a4⟩ := h2
  by_cases h3 : t.on = false
  · rw [if_pos h3]; simp only; omega
  rw [if_neg h3]
  have hn := Pk.near_bd16 t.high q (by omega)
  have hg := Pk.gap_bd t.high q
  generalize Pk.near t.high q 65536 = n at *
  generalize Pk.gap t.high q = g at *
  split
  · simp only; omega
  split
  · simp only; omega
  · simp only; omega
set_option maxRecDepth 100000 in
set_option maxHeartbeats 6400000 in
theorem walk (w : World) (on : Bool) (hi ju : Int) (hok : TTr.ok ⟨on, hi, ju⟩) (A : Option Addr) (l : List Int) (cap : Nat) (hl : l.length ≤ cap) (hm : cap ≤ maxLen) (hA : IntsAt w w.heap.size .u16 A l) (hw : ∀ z ∈ l, (Lit.int .u16 z).wf = true) :
    Calls Try.prog 7 #[.agg #[.bool on, .int .i64 hi, .int .i64 ju], .slice A l.length cap] w fun e w' => e = .returned (.bool true) ∧ Below w.heap.size w w' := by
  have hz : Within 0 65535 l := fun z hz => wf_u16 (hw z hz)
  unfold maxLen at hm
  obtain ⟨a1, a2⟩ := hok
  have p1 := wf_i64 a1
  have p2 := wf_i64 a2
  have HP := Lib.hid (And.intro p1 p2)
  have HA := Lib.hid hA
  have HZ := Lib.hid hz
  clear hA hz hw a1 a2 p1 p2
  go_enter Try.func7, Try.ntmps7
  go_wp2_with fail
  go_loopg [6] l.length (fun gk i wr => ∃ (k : Nat) (on : Bool) (hi ju : Int), gk + k = l.length ∧ i = .int .i64 k ∧ Hid ((-9223372036854775808 ≤ hi ∧ hi ≤ 9223372036854775807) ∧ (-9223372036854775808 ≤ ju ∧ ju ≤ 9223372036854775807)) ∧ Hid (Blk wr w.heap.size 40 #[.bool on, .int .i64 hi, .int .i64 ju]) ∧ Hid (Blk wr (w.heap.size + 1) 40 #[.bool on, .int .i64 hi, .int .i64 ju]) ∧ Hid (Bel w wr))
  case atStart => exact ⟨0, on, hi, ju, rfl, rfl, HP, Lib.hid ((Blk.new w _ _).push _), Lib.hid (Blk.new1 w _ _ _), Lib.hid (((Bel.refl w).push _).push _)⟩
  case round =>
    clear HP
    obtain ⟨k, on, hi, ju, hg, rfl, HP, B0, B1, U⟩ := hrel
    have hi0 : (0 : Int) ≤ (k : Int) := by omega
    by_cases hlt : k < l.length
    rotate_left
    · have hi1 : (l.length : Int) ≤ (k : Int) := by omega
      go_wp2_with fail
      refine (lives25 _).mono ?_
      rintro e w9 ⟨rfl, hb⟩
      go_wp2_with fail
      go_ret
      exact ⟨rfl, U.out.later hb⟩
    have hi1 : (k : Int) < (l.length : Int) := by omega
    by_cases h100 : k < 100
    rotate_left
    · have hi2 : (100 : Int) ≤ (k : Int) := by omega
      go_wp2_with fail
      refine (lives25 _).mono ?_
      rintro e w9 ⟨rfl, hb⟩
      go_wp2_with fail
      go_ret
      exact ⟨rfl, U.out.later hb⟩
    have hi2 : (k : Int) < 100 := by omega
    have hce : ∃ b off, A = some ⟨b, off, none⟩ ∧ b < w.heap.size ∧ w.cell? ⟨b, off + k, none⟩ = some (.int .u16 (l.getD k 0)) := by
      obtain ⟨b, off, h1, h2, h3⟩ := HA.out (by omega)
      exact ⟨b, off, h1, h2, h3 k hlt⟩
    obtain ⟨b, off, rfl, hbB, ec⟩ := hce
    obtain ⟨q0, q1⟩ := HZ.out.at (i := k) hlt
    generalize l.getD k 0 = q at *
    obtain ⟨⟨x0, x1⟩, ⟨y0, y1⟩⟩ := HP.out
    have k1 := fun W => Follow_any on hi ju q W q0 q1 x0 x1 y0 y1
    have k2 := fun W => rFollow_any on hi ju q W q0 q1 x0 x1 y0 y1
    have hbd := follow_bd ⟨on, hi, ju⟩ q q0 q1
    generalize Pk.follow ⟨on, hi, ju⟩ q = R at *
    obtain ⟨⟨on2, hi2', ju2⟩, n, okb⟩ := R
    simp only [Pk.Tr.row] at k1 k2 hbd
    have HB2 := Lib.hid hbd
    have EC := Lib.hid ec
    replace k1 := Lib.hid k1
    replace k2 := Lib.hid k2
    clear hbd ec HP x0 x1 y0 y1
    have e0 := (U.out.cell (p := ⟨b, off + k, none⟩) hbB).trans EC.out
    have f0 := B0.out.at 0 _ rfl
    have f1 := B0.out.at 1 _ rfl
    have f2 := B0.out.at 2 _ rfl
    have hU : Below wr.heap.size wr wr := Below.refl _ _
    go_wp2_with fail
    go_cut [7, 8, 9] (fun s7 s8 s9 wx => ∃  (g : Nat), s7 = .pointer (some ⟨g, 0, none⟩) ∧ s8 = .int .i64 n ∧ s9 = .bool okb ∧ Hid (Blk wx g 40 #[.bool on2, .int .i64 hi2', .int .i64 ju2]) ∧ Hid (wr.heap.size ≤ g) ∧ Hid (Below wr.heap.size wr wx))
    case first =>
      go_region_held3 (fun w' => Below wr.heap.size wr w' ∧ w'.cell? ⟨b, off + k, none⟩ = some (.int .u16 q) ∧ w'.cell? ⟨w.heap.size, 0, none⟩ = some (.bool on) ∧ w'.cell? ⟨w.heap.size, 1, none⟩ = some (.int .i64 hi) ∧ w'.cell? ⟨w.heap.size, 2, none⟩ = some (.int .i64 ju))
        (first | (with_reducible assumption) | ((try go_split_ands); refine and_dep ?_ (fun hbX => ⟨cell_old hbX e0, cell_old hbX f0, cell_old hbX f1, cell_old hbX f2⟩); (with_reducible repeat first | assumption | exact below_old' (by assumption) (by assumption) | refine Below.drew ?_ | refine below_new_old ?_ _ | refine below_set_old ?_ (by exact Nat.le_refl _) _)))
        (first | (go_at_call 18; refine (k1.out _).mono ?_; rintro e w' ⟨rfl, hbel⟩; have hbw : Below wr.heap.size wr w' := below_old' hbel (by (try go_split_ands); with_reducible assumption); obtain ⟨hcc, hff⟩ := bcell hbel))
      all_goals
        go_wp2_with fail
        go_meet
        first
          | with_reducible exact ⟨_, rfl, rfl, rfl, Lib.hid (Blk.new _ _ _), Lib.hid hbw.size, Lib.hid (below_new_old hbw _)⟩
          | exact ⟨wr.heap.size, rfl, rfl, rfl, Lib.hid (Blk.setRow (((Blk.new wr 40 #[.bool false, .int .i64 0, .int .i64 0]).drew).later hbel) [.bool on2, .int .i64 hi2', .int .i64 ju2] rfl), Lib.hid (Nat.le_refl _), Lib.hid (below_setRow (Nat.le_refl _) [.bool on2, .int .i64 hi2', .int .i64 ju2] w' 0 hbw)⟩
    case rest =>
      obtain ⟨g2, rfl, rfl, rfl, B2, G2, HB⟩ := hcut
      replace U := Lib.hid (U.out.later HB.out)
      replace B0 := Lib.hid (B0.out.later HB.out)
      replace B1 := Lib.hid (B1.out.later HB.out)
      clear G2 HB e0 hU f0 f1 f2
      obtain ⟨w1, rfl⟩ : ∃ w1 : World, w1 = wc := ⟨_, rfl⟩
      have e0 := (U.out.cell (p := ⟨b, off + k, none⟩) hbB).trans EC.out
      have f0 := B1.out.at 0 _ rfl
      have f1 := B1.out.at 1 _ rfl
      have f2 := B1.out.at 2 _ rfl
      have hU : Below w1.heap.size w1 w1 := Below.refl _ _
      go_wp2_with fail
      go_cut [10, 11, 12] (fun s10 s11 s12 wx => ∃  (g : Nat), s10 = .pointer (some ⟨g, 0, none⟩) ∧ s11 = .int .i64 n ∧ s12 = .bool okb ∧ Hid (Blk wx g 40 #[.bool on2, .int .i64 hi2', .int .i64 ju2]) ∧ Hid (w1.heap.size ≤ g) ∧ Hid (Below w1.heap.size w1 wx))
      case first =>
        go_region_held3 (fun w' => Below w1.heap.size w1 w' ∧ w'.cell? ⟨b, off + k, none⟩ = some (.int .u16 q) ∧ w'.cell? ⟨w.heap.size + 1, 0, none⟩ = some (.bool on) ∧ w'.cell? ⟨w.heap.size + 1, 1, none⟩ = some (.int .i64 hi) ∧ w'.cell? ⟨w.heap.size + 1, 2, none⟩ = some (.int .i64 ju))
          (first | (with_reducible assumption) | ((try go_split_ands); refine and_dep ?_ (fun hbX => ⟨cell_old hbX e0, cell_old hbX f0, cell_old hbX f1, cell_old hbX f2⟩); (with_reducible repeat first | assumption | exact below_old' (by assumption) (by assumption) | refine Below.drew ?_ | refine below_new_old ?_ _ | refine below_set_old ?_ (by exact Nat.le_refl _) _)))
          (first | (go_at_call 19; refine (k2.out _).mono ?_; rintro e w' ⟨rfl, hbel⟩; have hbw : Below w1.heap.size w1 w' := below_old' hbel (by (try go_split_ands); with_reducible assumption); obtain ⟨hcc, hff⟩ := bcell hbel))
        all_goals
          go_wp2_with fail
          go_meet
          first
            | with_reducible exact ⟨_, rfl, rfl, rfl, Lib.hid (Blk.new _ _ _), Lib.hid hbw.size, Lib.hid (below_new_old hbw _)⟩
            | exact ⟨w1.heap.size, rfl, rfl, rfl, Lib.hid (Blk.setRow (((Blk.new w1 40 #[.bool false, .int .i64 0, .int .i64 0]).drew).later hbel) [.bool on2, .int .i64 hi2', .int .i64 ju2] rfl), Lib.hid (Nat.le_refl _), Lib.hid (below_setRow (Nat.le_refl _) [.bool on2, .int .i64 hi2', .int .i64 ju2] w' 0 hbw)⟩
      case rest =>
        obtain ⟨g3, rfl, rfl, rfl, B3, G3, HB⟩ := hcut
        replace U := Lib.hid (U.out.later HB.out)
        have hne1 := B1.out.lt
        replace B0 := Lib.hid (B0.out.later HB.out)
        replace B1 := Lib.hid (B1.out.later HB.out)
        replace B2 := Lib.hid (B2.out.later HB.out)
        have n1 : ¬g3 = w.heap.size := by have := hne1; have := G3.out; omega
        clear HB e0 hU f0 f1 f2 G3 hne1
        obtain ⟨w2, rfl⟩ : ∃ w2 : World, w2 = wc := ⟨_, rfl⟩
        have p0 := B0.out.at 0 _ rfl
        have p1 := B0.out.at 1 _ rfl
        have p2 := B0.out.at 2 _ rfl
        have s0 := B1.out.at 0 _ rfl
        have s1 := B1.out.at 1 _ rfl
        have s2 := B1.out.at 2 _ rfl
        have a0 := B2.out.at 0 _ rfl
        have a1 := B2.out.at 1 _ rfl
        have a2 := B2.out.at 2 _ rfl
        have c0 := B3.out.at 0 _ rfl
        have c1 := B3.out.at 1 _ rfl
        have c2 := B3.out.at 2 _ rfl
        have z0 := B0.out.frozen
        have z1 := B1.out.frozen
        have h01 : ¬w.heap.size = w.heap.size + 1 := by omega
        have h10 : ¬w.heap.size + 1 = w.heap.size := by omega
        go_wp2_with fail
        go_roundg (gk - 1)
        case measure => omega
        case rel =>
          obtain ⟨v1, v2, v3, v4⟩ := HB2.out
          exact ⟨k + 1, on2, hi2', ju2, by omega, by go_num, Lib.hid ⟨⟨by omega, by omega⟩, by omega, by omega⟩,
            Lib.hid (((((Blk.setRow B0.out [.bool on2, .int .i64 hi2', .int .i64 ju2] rfl).far (by simp) _).far (by simp) _).far (by simp) _)),
            Lib.hid (Blk.setRow ((((B1.out.far (by simp) _).far (by simp) _).far (by simp) _)) [.bool on2, .int .i64 hi2', .int .i64 ju2] rfl),
            Lib.hid (below_setRow (by omega) [.bool on2, .int .i64 hi2', .int .i64 ju2] _ 0 (below_setRow (g := w.heap.size) (Nat.le_refl _) [.bool on2, .int .i64 hi2', .int .i64 ju2] _ 0 U.out))⟩
end Go.Proofs.Ytbpcpgmbfnmacaa.packetTracks

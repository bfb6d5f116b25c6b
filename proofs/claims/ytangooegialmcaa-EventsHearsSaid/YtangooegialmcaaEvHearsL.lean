/- Layer 29, EventsHears: for every receiver and packets the law returns true. -/
import Derived.Test.YtangooegialmcaaEvLives
import Derived.Test.YtangooegialmcaaEvTypes2
import Derived.Test.YtangooegialmcaaEvTypes
import Derived.Test.YtangooegialmcaaLate
namespace Go.Proofs.Ytangooegialmcaa.eventsHears
open Go.RowKit
set_option linter.unusedVariables false
set_option linter.unusedSimpArgs false
attribute [local go_sem] setCell_drewN alloc_drewN
attribute [local go_sem ↓] Go.wp_at_zero Go.wp_at_succ
theorem hear_bd (r : Ev.Rcv) (t c : Int) (f : Bool) (v d : Int) (t0 : 0 ≤ t) (t1 : t ≤ 4294967295) (d0 : 0 ≤ d) (d1 : d ≤ 65535) (r0 : 0 ≤ r.time) (r1 : r.time ≤ 4294967295) (l0 : -9223372036854775808 ≤ r.len) (l1 : r.len ≤ 9223372036854775807) :
    0 ≤ (Ev.hear r t ⟨c, f, v, d⟩).1.time ∧ (Ev.hear r t ⟨c, f, v, d⟩).1.time ≤ 4294967295 ∧ -9223372036854775808 ≤ (Ev.hear r t ⟨c, f, v, d⟩).1.len ∧ (Ev.hear r t ⟨c, f, v, d⟩).1.len ≤ 9223372036854775807 ∧ (Ev.hear r t ⟨c, f, v, d⟩).2.length ≤ 3 := by
  unfold Ev.hear
  split
  · refine ⟨t0, t1, by simp only; omega, by simp only; omega, ?_⟩
    simp only [List.length_append]
    repeat' split
    all_goals simp
  · split
    · refine ⟨r0, r1, by simp only; omega, by simp only; omega, ?_⟩
      simp only
      split <;> simp
    · exact ⟨r0, r1, l0, l1, by simp⟩
def HearL (y0 : Bool) (y1 y2 y3 : Int) (y4 : Bool) (ks : List Ev.Key) (w : World) (e : Ending) (w' : World) : Prop :=
  ∃ (A : Option Addr) (c : Nat), e = .returned (.tuple #[.agg #[.bool y0, .int .u32 y1, .int .u8 y2, .int .i64 y3, .bool y4], .slice A ks.length c]) ∧ RowsNew w.heap.size w' 4 Ev.Key.row A ks ∧ Below w.heap.size w w'
theorem hearL (y0 : Bool) (y1 y2 y3 : Int) (y4 : Bool) (ks : List Ev.Key) (w : World) : Ev.HearR w (⟨y0, y1, y2, y3, y4⟩, ks) = HearL y0 y1 y2 y3 y4 ks w := rfl
theorem rows5 {w : World} {B : Nat} {A : Option Addr} {l : List THeard} (h : RowsAt w B 5 THeard.row A l) {k : Nat} {a : THeard} (ha : l[k]? = some a) : ∃ b off, A = some ⟨b, off, none⟩ ∧ b < B ∧
    w.cell? ⟨b, off + k * 5, none⟩ = some (.int .u32 a.time) ∧ w.cell? ⟨b, off + k * 5 + 1, none⟩ = some (.int .u8 a.code) ∧ w.cell? ⟨b, off + k * 5 + 1 + 1, none⟩ = some (.bool a.fin) ∧ w.cell? ⟨b, off + k * 5 + 1 + 2, none⟩ = some (.int .u8 a.vol) ∧ w.cell? ⟨b, off + k * 5 + 1 + 3, none⟩ = some (.int .u16 a.dur) := by
  obtain ⟨b, off, rfl, hb, hc⟩ := h (by have := (List.getElem?_eq_some_iff.1 ha).1; omega)
  exact ⟨b, off, rfl, hb, hc k a ha 0 _ rfl, hc k a ha 1 _ rfl, hc k a ha 2 _ rfl, hc k a ha 3 _ rfl, hc k a ha 4 _ rfl⟩
set_option maxRecDepth 100000 in
set_option maxHeartbeats 3200000 in
theorem main (w : World) (r0 : Bool) (r1 r2 r3 : Int) (r4 : Bool) (b10 : 0 ≤ r1) (b11 : r1 ≤ 4294967295) (b30 : -9223372036854775808 ≤ r3) (b31 : r3 ≤ 9223372036854775807) (A : Option Addr) (l : List THeard) (c : Nat) (hl : l.length ≤ c) (hc : c ≤ maxLen) (hA : RowsAt w w.heap.size 5 THeard.row A l) (hok : ∀ a ∈ l, a.ok) :
    Calls Try.prog 3 #[.agg #[.bool r0, .int .u32 r1, .int .u8 r2, .int .i64 r3, .bool r4], .slice A l.length c] w fun e w' => e = .returned (.bool true) ∧ Below w.heap.size w w' := by
  unfold maxLen at hc
  have HOK := Lib.hid hok
  have HA := Lib.hid hA
  clear hok hA
  go_enter Try.func3, Try.ntmps3
  have U := Lib.hid (Bel.refl w)
  go_wp2_with fail
  go_loopg [6] 100 (fun g i wr => ∃ (k : Nat) (x0 : Bool) (x1 x2 x3 : Int) (x4 : Bool), k ≤ l.length ∧ g + k = 100 ∧ i = .int .i64 k ∧ Hid (0 ≤ x1 ∧ x1 ≤ 4294967295 ∧ -9223372036854775808 ≤ x3 ∧ x3 ≤ 9223372036854775807) ∧ Hid (Blk wr w.heap.size 24 #[.bool x0, .int .u32 x1, .int .u8 x2, .int .i64 x3, .bool x4]) ∧ Hid (Blk wr (w.heap.size + 1) 24 #[.bool x0, .int .u32 x1, .int .u8 x2, .int .i64 x3, .bool x4]) ∧ Hid (Bel w wr))
  case atStart => exact ⟨0, r0, r1, r2, r3, r4, Nat.zero_le _, rfl, rfl, Lib.hid ⟨b10, b11, b30, b31⟩, Lib.hid ((Blk.new w _ _).push _), Lib.hid (Blk.new1 w _ _ _), Lib.hid (((Bel.refl w).push _).push _)⟩
  case round =>
    obtain ⟨k, x0, x1, x2, x3, x4, hk, hg, rfl, HX, B0, B1, U⟩ := hrel
    by_cases hlt : k < l.length
    · by_cases h100 : k < 100
      · obtain ⟨a, ha⟩ : ∃ a, l[k]? = some a := ⟨_, List.getElem?_eq_getElem hlt⟩
        obtain ⟨p1, p2, p3, p4⟩ := HX.out
        obtain ⟨q1, q2, q3, q4⟩ := HOK.out a (List.mem_of_getElem? ha)
        obtain ⟨b, off, rfl, hbB, e0, e1, e2, e3, e4⟩ := rows5 (HA.out.keep (fun p hp => U.out.cell hp)) ha
        obtain ⟨ht, hcd, hf, hv, hd⟩ := a
        have q1' : 0 ≤ ht ∧ ht ≤ 4294967295 := by simpa [Lit.wf, IntKind.min, IntKind.max, IntKind.signed, IntKind.bits] using q1
        have q4' : 0 ≤ hd ∧ hd ≤ 65535 := by simpa [Lit.wf, IntKind.min, IntKind.max, IntKind.signed, IntKind.bits] using q4
        simp only at e0 e1 e2 e3 e4
        have k1 := fun W => Hear_any x0 x1 x2 x3 x4 ht hcd hf hv hd W q1'.1 q1'.2 q4'.1 q4'.2 p3 p4
        have k2 := fun W => rHear_any x0 x1 x2 x3 x4 ht hcd hf hv hd W q1'.1 q1'.2 p1 p2 q4'.1 q4'.2 p3 p4
        have hbd := hear_bd ⟨x0, x1, x2, x3, x4⟩ ht hcd hf hv hd q1'.1 q1'.2 q4'.1 q4'.2 p1 p2 p3 p4
        generalize Ev.hear ⟨x0, x1, x2, x3, x4⟩ ht ⟨hcd, hf, hv, hd⟩ = R at k1 k2 hbd
        obtain ⟨⟨y0, y1, y2, y3, y4⟩, ks⟩ := R
        simp only [hearL] at k1 k2
        replace k1 := Lib.hid k1
        replace k2 := Lib.hid k2
        obtain ⟨d1, d2, d3, d4, d5⟩ := hbd
        simp only at d1 d2 d3 d4 d5
        have HD := Lib.hid (And.intro d1 (And.intro d2 (And.intro d3 d4)))
        have HK := Lib.hid d5
        have HA5 := Lib.hid ha
        clear ha q1 q2 q3 q4 q1' q4' p1 p2 p3 p4 HX d1 d2 d3 d4 d5
        have hi0 : (0 : Int) ≤ (k : Int) := by omega
        have hi1 : (k : Int) < (l.length : Int) := by omega
        have hi2 : (k : Int) < 100 := by omega
        have f0 := B0.out.at 0 _ rfl
        have f1 := B0.out.at 1 _ rfl
        have f2 := B0.out.at 2 _ rfl
        have f3 := B0.out.at 3 _ rfl
        have f4 := B0.out.at 4 _ rfl
        have hU : Below wr.heap.size wr wr := Below.refl _ _
        go_wp2_with fail
        go_cut [7, 8] (fun s7 s8 wx => ∃ (A2 : Option Addr) (c2 g : Nat), s7 = .pointer (some ⟨g, 0, none⟩) ∧ s8 = .slice A2 ks.length c2 ∧ Hid (RowsNew wr.heap.size wx 4 Ev.Key.row A2 ks) ∧ Hid (Blk wx g 24 #[.bool y0, .int .u32 y1, .int .u8 y2, .int .i64 y3, .bool y4]) ∧ Hid (wr.heap.size ≤ g) ∧ Hid (Below wr.heap.size wr wx))
        case first =>
          go_region_held3 (fun w' => Below wr.heap.size wr w' ∧ w'.cell? ⟨b, off + k * 5, none⟩ = some (.int .u32 ht) ∧ w'.cell? ⟨b, off + k * 5 + 1, none⟩ = some (.int .u8 hcd) ∧ w'.cell? ⟨b, off + k * 5 + 1 + 1, none⟩ = some (.bool hf) ∧ w'.cell? ⟨b, off + k * 5 + 1 + 2, none⟩ = some (.int .u8 hv) ∧ w'.cell? ⟨b, off + k * 5 + 1 + 3, none⟩ = some (.int .u16 hd) ∧ w'.cell? ⟨w.heap.size, 0, none⟩ = some (.bool x0) ∧ w'.cell? ⟨w.heap.size, 1, none⟩ = some (.int .u32 x1) ∧ w'.cell? ⟨w.heap.size, 2, none⟩ = some (.int .u8 x2) ∧ w'.cell? ⟨w.heap.size, 3, none⟩ = some (.int .i64 x3) ∧ w'.cell? ⟨w.heap.size, 4, none⟩ = some (.bool x4))
            (first | assumption | ((try go_split_ands); refine and_dep ?_ (fun hbX => ⟨cell_old hbX e0, cell_old hbX e1, cell_old hbX e2, cell_old hbX e3, cell_old hbX e4, cell_old hbX f0, cell_old hbX f1, cell_old hbX f2, cell_old hbX f3, cell_old hbX f4⟩); (with_reducible repeat first | assumption | exact below_old' (by assumption) (by assumption) | refine Below.drew ?_ | refine below_new_old ?_ _ | refine below_set_old ?_ (by exact Nat.le_refl _) _)))
            (first | (go_at_call 12; refine (k1.out _).mono ?_; rintro e w' ⟨A2, c2, rfl, hA2, hbel⟩; have hbw : Below wr.heap.size wr w' := below_old' hbel (by (try go_split_ands); assumption); obtain ⟨hcc, hff⟩ := bcell hbel))
          all_goals
            go_wp2_with fail
            go_meet
            first
              | with_reducible exact ⟨A2, c2, _, rfl, rfl, Lib.hid ((hA2.less (by simp)).push _), Lib.hid (Blk.new _ _ _), Lib.hid hbw.size, Lib.hid (below_new_old hbw _)⟩
              | exact ⟨A2, c2, wr.heap.size, rfl, rfl, Lib.hid (RowsNew.less (RowsNew.setRow (g := wr.heap.size) (by simp) [.bool y0, .int .u32 y1, .int .u8 y2, .int .i64 y3, .bool y4] w' 0 hA2) (by simp)), Lib.hid (Blk.setRow (((Blk.new wr 24 #[.bool false, .int .u32 0, .int .u8 0, .int .i64 0, .bool false]).drew).later hbel) [.bool y0, .int .u32 y1, .int .u8 y2, .int .i64 y3, .bool y4] rfl), Lib.hid (Nat.le_refl _), Lib.hid (below_setRow (Nat.le_refl _) [.bool y0, .int .u32 y1, .int .u8 y2, .int .i64 y3, .bool y4] w' 0 hbw)⟩
        case rest =>
          obtain ⟨A2, c2, g2, rfl, rfl, RA, B2, G2, HB⟩ := hcut
          replace U := Lib.hid (U.out.later HB.out)
          replace B0 := Lib.hid (B0.out.later HB.out)
          replace B1 := Lib.hid (B1.out.later HB.out)
          have hne1 := B0.out.lt
          clear f0 f1 f2 f3 f4
          clear G2 HB e0 e1 e2 e3 e4 hU
          obtain ⟨w1, rfl⟩ : ∃ w1 : World, w1 = wc := ⟨_, rfl⟩
          obtain ⟨_, _, e, hbB', e0, e1, e2, e3, e4⟩ := rows5 (HA.out.keep (fun p hp => U.out.cell hp)) HA5.out
          injection e with e
          injection e with ea eb
          subst ea eb
          simp only at e0 e1 e2 e3 e4
          have f0 := B1.out.at 0 _ rfl
          have f1 := B1.out.at 1 _ rfl
          have f2 := B1.out.at 2 _ rfl
          have f3 := B1.out.at 3 _ rfl
          have f4 := B1.out.at 4 _ rfl
          have hU : Below w1.heap.size w1 w1 := Below.refl _ _
          go_wp2_with fail
          go_cut [9, 10] (fun s7 s8 wx => ∃ (A2 : Option Addr) (c2 g : Nat), s7 = .pointer (some ⟨g, 0, none⟩) ∧ s8 = .slice A2 ks.length c2 ∧ Hid (RowsNew w1.heap.size wx 4 Ev.Key.row A2 ks) ∧ Hid (Blk wx g 24 #[.bool y0, .int .u32 y1, .int .u8 y2, .int .i64 y3, .bool y4]) ∧ Hid (w1.heap.size ≤ g) ∧ Hid (Below w1.heap.size w1 wx))
          case first =>
            go_region_held3 (fun w' => Below w1.heap.size w1 w' ∧ w'.cell? ⟨b, off + k * 5, none⟩ = some (.int .u32 ht) ∧ w'.cell? ⟨b, off + k * 5 + 1, none⟩ = some (.int .u8 hcd) ∧ w'.cell? ⟨b, off + k * 5 + 1 + 1, none⟩ = some (.bool hf) ∧ w'.cell? ⟨b, off + k * 5 + 1 + 2, none⟩ = some (.int .u8 hv) ∧ w'.cell? ⟨b, off + k * 5 + 1 + 3, none⟩ = some (.int .u16 hd) ∧ w'.cell? ⟨w.heap.size + 1, 0, none⟩ = some (.bool x0) ∧ w'.cell? ⟨w.heap.size + 1, 1, none⟩ = some (.int .u32 x1) ∧ w'.cell? ⟨w.heap.size + 1, 2, none⟩ = some (.int .u8 x2) ∧ w'.cell? ⟨w.heap.size + 1, 3, none⟩ = some (.int .i64 x3) ∧ w'.cell? ⟨w.heap.size + 1, 4, none⟩ = some (.bool x4))
              (first | assumption | ((try go_split_ands); refine and_dep ?_ (fun hbX => ⟨cell_old hbX e0, cell_old hbX e1, cell_old hbX e2, cell_old hbX e3, cell_old hbX e4, cell_old hbX f0, cell_old hbX f1, cell_old hbX f2, cell_old hbX f3, cell_old hbX f4⟩); (with_reducible repeat first | assumption | exact below_old' (by assumption) (by assumption) | refine Below.drew ?_ | refine below_new_old ?_ _ | refine below_set_old ?_ (by exact Nat.le_refl _) _)))
              (first | (go_at_call 13; refine (k2.out _).mono ?_; rintro e w' ⟨A2, c2, rfl, hA2, hbel⟩; have hbw : Below w1.heap.size w1 w' := below_old' hbel (by (try go_split_ands); assumption); obtain ⟨hcc, hff⟩ := bcell hbel))
            all_goals
              go_wp2_with fail
              go_meet
              first
                | with_reducible exact ⟨A2, c2, _, rfl, rfl, Lib.hid ((hA2.less (by simp)).push _), Lib.hid (Blk.new _ _ _), Lib.hid hbw.size, Lib.hid (below_new_old hbw _)⟩
                | exact ⟨A2, c2, w1.heap.size, rfl, rfl, Lib.hid (RowsNew.less (RowsNew.setRow (g := w1.heap.size) (by simp) [.bool y0, .int .u32 y1, .int .u8 y2, .int .i64 y3, .bool y4] w' 0 hA2) (by simp)), Lib.hid (Blk.setRow (((Blk.new w1 24 #[.bool false, .int .u32 0, .int .u8 0, .int .i64 0, .bool false]).drew).later hbel) [.bool y0, .int .u32 y1, .int .u8 y2, .int .i64 y3, .bool y4] rfl), Lib.hid (Nat.le_refl _), Lib.hid (below_setRow (Nat.le_refl _) [.bool y0, .int .u32 y1, .int .u8 y2, .int .i64 y3, .bool y4] w' 0 hbw)⟩
          case rest =>
            obtain ⟨A3, c3, g3, rfl, rfl, RB, B3, G3, HB⟩ := hcut
            replace U := Lib.hid (U.out.later HB.out)
            replace B0 := Lib.hid (B0.out.later HB.out)
            replace B1 := Lib.hid (B1.out.later HB.out)
            replace B2 := Lib.hid (B2.out.later HB.out)
            replace RA := Lib.hid (RA.out.later HB.out)
            clear HB e0 e1 e2 e3 e4 f0 f1 f2 f3 f4 hU
            obtain ⟨w2, rfl⟩ : ∃ w2 : World, w2 = wc := ⟨_, rfl⟩
            have f0 := B2.out.at 0 _ rfl
            have f1 := B2.out.at 1 _ rfl
            have f2 := B2.out.at 2 _ rfl
            have f3 := B2.out.at 3 _ rfl
            have f4 := B2.out.at 4 _ rfl
            have m0 := B3.out.at 0 _ rfl
            have m1 := B3.out.at 1 _ rfl
            have m2 := B3.out.at 2 _ rfl
            have m3 := B3.out.at 3 _ rfl
            have m4 := B3.out.at 4 _ rfl
            go_wp2_with fail
            refine (same29 A2 A3 ks _ c2 c3 rfl w2 RA.out.1 RB.out.1 (by have := HK.out; omega)).mono ?_
            rintro e w3 ⟨rfl, hb3⟩
            replace U := Lib.hid (U.out.later hb3)
            replace B0 := Lib.hid (B0.out.later hb3)
            replace B1 := Lib.hid (B1.out.later hb3)
            replace B2 := Lib.hid (B2.out.later hb3)
            replace B3 := Lib.hid (B3.out.later hb3)
            clear hb3 f0 f1 f2 f3 f4 m0 m1 m2 m3 m4
            have f0 := B2.out.at 0 _ rfl
            have f1 := B2.out.at 1 _ rfl
            have f2 := B2.out.at 2 _ rfl
            have f3 := B2.out.at 3 _ rfl
            have f4 := B2.out.at 4 _ rfl
            have m0 := B3.out.at 0 _ rfl
            have m1 := B3.out.at 1 _ rfl
            have m2 := B3.out.at 2 _ rfl
            have m3 := B3.out.at 3 _ rfl
            have m4 := B3.out.at 4 _ rfl
            have z0 := B0.out.frozen
            have z1 := B1.out.frozen
            have p0 := B0.out.at 0 _ rfl
            have p1 := B0.out.at 1 _ rfl
            have p2 := B0.out.at 2 _ rfl
            have p3 := B0.out.at 3 _ rfl
            have p4 := B0.out.at 4 _ rfl
            have q0 := B1.out.at 0 _ rfl
            have q1 := B1.out.at 1 _ rfl
            have q2 := B1.out.at 2 _ rfl
            have q3 := B1.out.at 3 _ rfl
            have q4 := B1.out.at 4 _ rfl
            have n1 : g3 ≠ w.heap.size := by have := hne1; have := G3.out; omega
            go_wp2_with fail
            have h01 : w.heap.size ≠ w.heap.size + 1 := by omega
            have h10 : w.heap.size + 1 ≠ w.heap.size := by omega
            have b0 := Blk.farRow h01 [.bool y0, .int .u32 y1, .int .u8 y2, .int .i64 y3, .bool y4] _ 0 (B0.out.setRow [.bool y0, .int .u32 y1, .int .u8 y2, .int .i64 y3, .bool y4] rfl)
            have b1 := (Blk.farRow h10 [.bool y0, .int .u32 y1, .int .u8 y2, .int .i64 y3, .bool y4] _ 0 B1.out).setRow [.bool y0, .int .u32 y1, .int .u8 y2, .int .i64 y3, .bool y4] rfl
            have bU : Bel w _ := below_setRow (show w.heap.size ≤ w.heap.size + 1 by omega) [.bool y0, .int .u32 y1, .int .u8 y2, .int .i64 y3, .bool y4] _ 0 (below_setRow (Nat.le_refl w.heap.size) [.bool y0, .int .u32 y1, .int .u8 y2, .int .i64 y3, .bool y4] _ 0 U.out)
            go_roundg (gk - 1)
            case measure => omega
            case rel => exact ⟨k + 1, y0, y1, y2, y3, y4, by omega, by omega, by go_num, HD, Lib.hid b0, Lib.hid b1, Lib.hid bU⟩
      · have hi1 : (k : Int) < (l.length : Int) := by omega
        have hi2 : (100 : Int) ≤ (k : Int) := by omega
        go_wp2_with fail
        refine (lives29 _).mono ?_
        rintro e w3 ⟨rfl, hb3⟩
        go_wp2_with fail
        go_ret
        exact ⟨rfl, U.out.later hb3⟩
    · have hi1 : (l.length : Int) ≤ (k : Int) := by omega
      go_wp2_with fail
      refine (lives29 _).mono ?_
      rintro e w3 ⟨rfl, hb3⟩
      go_wp2_with fail
      go_ret
      exact ⟨rfl, U.out.later hb3⟩
theorem walk (w : World) (r0 : Bool) (r1 r2 r3 : Int) (r4 : Bool) (hr : (⟨r0, r1, r2, r3, r4⟩ : TRcv).ok) (A : Option Addr) (l : List THeard) (c : Nat) (hl : l.length ≤ c) (hc : c ≤ maxLen) (hA : RowsAt w w.heap.size 5 THeard.row A l) (hok : ∀ a ∈ l, a.ok) :
    Calls Try.prog 3 #[.agg #[.bool r0, .int .u32 r1, .int .u8 r2, .int .i64 r3, .bool r4], .slice A l.length c] w fun e w' => e = .returned (.bool true) ∧ Below w.heap.size w w' := by
  obtain ⟨h1, h2, h3⟩ := hr
  have q1 : 0 ≤ r1 ∧ r1 ≤ 4294967295 := by simpa [Lit.wf, IntKind.min, IntKind.max, IntKind.signed, IntKind.bits] using h1
  have q3 : -9223372036854775808 ≤ r3 ∧ r3 ≤ 9223372036854775807 := by simpa [Lit.wf, IntKind.min, IntKind.max, IntKind.signed, IntKind.bits] using h3
  exact main w r0 r1 r2 r3 r4 q1.1 q1.2 q3.1 q3.2 A l c hl hc hA hok
end Go.Proofs.Ytangooegialmcaa.eventsHears

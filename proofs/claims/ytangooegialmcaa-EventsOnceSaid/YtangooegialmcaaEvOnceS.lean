/- Layer 29, EventsOnce: all packets of some keys. -/
import Derived.Test.YtangooegialmcaaEvOnceP
import Derived.Test.YtangooegialmcaaEvLives
import Derived.Test.YtangooegialmcaaLate
import Derived.Test.YtangooegialmcaaRes
namespace Go.Proofs.Ytangooegialmcaa.eventsOnce
open Go.RowKit
set_option linter.unusedVariables false
set_option linter.unusedSimpArgs false
attribute [local go_sem] setCell_drewN alloc_drewN
attribute [local go_sem ↓] Go.wp_at_zero Go.wp_at_succ
theorem own_more {w : World} {base c : Nat} {e : TypeId} {A : Option Addr} {PL : List Sent} {p : Sent} (h : Owns w base e 7 A (PL.length + 1) c (PL.flatMap Sent.row ++ Sent.row p)) : Owns w base e 7 A (PL ++ [p]).length c ((PL ++ [p]).flatMap Sent.row) := by
  rw [List.flatMap_append, List.length_append]
  simpa using h
theorem good_more {t : Int} {l : List TStroke} {m : Nat} {PL : List Sent} (h : ∀ p ∈ PL, good t l m p) : ∀ p ∈ PL, good t l (m + 1) p := fun p hp => by
  obtain ⟨i, hi, h⟩ := h p hp
  exact ⟨i, by omega, h⟩
def SendR (t : Int) (l : List TStroke) (w : World) (e : Ending) (w' : World) : Prop :=
  ∃ (A : Option Addr) (c : Nat) (PL : List Sent), e = .returned (.tuple #[.slice A PL.length c, .bool true]) ∧ RowsNew w.heap.size w' 7 Sent.row A PL ∧ (∀ p ∈ PL, good t l l.length p) ∧ PL.length ≤ 13 * l.length ∧ Below w.heap.size w w'
set_option maxRecDepth 100000 in
set_option maxHeartbeats 6400000 in
theorem send_any (w : World) (t : Int) (t0 : 0 ≤ t) (t1 : t ≤ 4294967295) (A : Option Addr) (l : List TStroke) (c : Nat) (hl : l.length ≤ c) (hc : l.length ≤ 12) (hA : RowsAt w w.heap.size 3 TStroke.row A l) (hok : ∀ a ∈ l, a.ok) :
    Calls Try.prog 26 #[.int .u32 t, .slice A l.length c] w (SendR t l w) := by
  have HOK := Lib.hid hok
  have HA := Lib.hid hA
  have kP := Lib.hid fun c T W => Press_any false 0 0 0 0 0 c 10 T W
  clear hok hA
  go_enter Try.func26, Try.ntmps26
  go_wp2_with fail
  go_loopg [0, 6, 8] l.length (fun gk s0 s6 i wr => ∃ (k : Nat) (A' : Option Addr) (c' : Nat) (PL : List Sent) (tk : Int), gk + k = l.length ∧ i = .int .i64 k ∧ s0 = .int .u32 tk ∧ s6 = .slice A' PL.length c' ∧ Hid (tk = (t + E l k) % 4294967296) ∧ Hid (Owns wr (w.heap.size + 1) 65 7 A' PL.length c' (PL.flatMap Sent.row)) ∧ Hid (∀ p ∈ PL, good t l k p) ∧ Hid (PL.length ≤ 13 * k) ∧ Hid (Blk wr w.heap.size 49 #[.bool false, .int .u8 0, .int .u8 0, .int .u32 0, .int .i64 0, .int .i64 0]) ∧ Hid (Bel w wr))
  case atStart => exact ⟨0, none, 0, [], t, rfl, rfl, rfl, rfl, Lib.hid (by show t = (t + 0) % 4294967296; omega), Lib.hid Owns.nil, Lib.hid (fun p hp => by cases hp), Lib.hid (by simp), Lib.hid (Blk.new w _ _), Lib.hid ((Bel.refl w).push _)⟩
  case round =>
    obtain ⟨k, A', c', PL, tk, hg, rfl, rfl, rfl, HT, HO, HG, HN, B, U⟩ := hrel
    have hbs := U.out.size
    by_cases hlt : k < l.length
    · obtain ⟨b, off, rfl, hbB, e0, e1, e2⟩ := rows3 (HA.out.keep (fun p hp => U.out.cell hp)) hlt
      obtain ⟨q0, q1, q2, q3, q4, q5⟩ := ok_sk HOK.out hlt
      have htt := HT.out
      have htk : 0 ≤ tk ∧ tk ≤ 4294967295 := by omega
      obtain ⟨T, hT⟩ : ∃ T, T = TT t l k := ⟨_, rfl⟩
      have hT2 : (tk + 160 * (4 + (sk l k).pause % 8)) % 4294967296 = T := by rw [hT]; unfold TT D; omega
      have hE : E l (k + 1) = E l k + (160 * (4 + (sk l k).pause % 8) + 160 * (1 + (sk l k).hold % 10)) := rfl
      have hT3 : (T + 160 * (1 + (sk l k).hold % 10)) % 4294967296 = (t + E l (k + 1)) % 4294967296 := by rw [hE]; omega
      have hTb := TT_bd t l k
      rw [← hT] at hTb
      have hcd : ∃ cd, cd = (sk l k).code := ⟨_, rfl⟩
      obtain ⟨cd, hcd⟩ := hcd
      rw [← hcd] at e0 q0 q1
      generalize (sk l k).pause = pz at *
      obtain ⟨hz, hhz⟩ : ∃ hz, hz = (sk l k).hold := ⟨_, rfl⟩
      rw [← hhz] at e1 q2 q3 hE hT3
      have HHZ := Lib.hid hhz
      clear hhz
      have HT3 := Lib.hid hT3
      have HTT := Lib.hid hT
      have HCD := Lib.hid hcd
      have kp : Hid (∀ W, Calls Try.prog 20 #[.agg #[.bool false, .int .u8 0, .int .u8 0, .int .u32 0, .int .i64 0, .int .i64 0], .int .u8 cd, .int .u8 10, .int .u32 T] W fun e w' => e = .returned (.tuple #[.agg #[.bool true, .int .u8 cd, .int .u8 10, .int .u32 T, .int .i64 0, .int .i64 0], .int .u8 0]) ∧ Below W.heap.size W w') := Lib.hid (fun W => by
        have h := kP.out cd T W
        rw [show Ev.press ⟨false, 0, 0, 0, 0, 0⟩ cd 10 T = (⟨true, cd, 10, T, 0, 0⟩, 0) from by unfold Ev.press; rw [if_neg (by decide), if_neg (by decide), if_neg (by decide)]] at h
        exact h)
      clear hT3 hT hcd hE htt HT
      obtain ⟨tk0, tk1⟩ := htk
      have hi0 : (0 : Int) ≤ (k : Int) := by omega
      have hi1 : (k : Int) < (l.length : Int) := by omega
      have f0 := B.out.at 0 _ rfl
      have f1 := B.out.at 1 _ rfl
      have f2 := B.out.at 2 _ rfl
      have f3 := B.out.at 3 _ rfl
      have f4 := B.out.at 4 _ rfl
      have f5 := B.out.at 5 _ rfl
      have hU : Below wr.heap.size wr wr := Below.refl _ _
      have HT2 := Lib.hid hT2
      clear hT2
      go_wp2_with fail
      rw [HT2.out]
      clear HT2
      go_cut [9, 10] (fun s9 s10 wx => ∃  (g : Nat), s9 = .pointer (some ⟨g, 0, none⟩) ∧ s10 = .int .u8 0 ∧ Hid (Blk wx g 49 #[.bool true, .int .u8 cd, .int .u8 10, .int .u32 T, .int .i64 0, .int .i64 0]) ∧ Hid (wr.heap.size ≤ g) ∧ Hid (Below wr.heap.size wr wx))
      case first =>
        go_region_held3 (fun w' => Below wr.heap.size wr w' ∧ w'.cell? ⟨b, off + k * 3, none⟩ = some (.int .u8 cd) ∧ w'.cell? ⟨w.heap.size, 0, none⟩ = some (.bool false) ∧ w'.cell? ⟨w.heap.size, 1, none⟩ = some (.int .u8 0) ∧ w'.cell? ⟨w.heap.size, 2, none⟩ = some (.int .u8 0) ∧ w'.cell? ⟨w.heap.size, 3, none⟩ = some (.int .u32 0) ∧ w'.cell? ⟨w.heap.size, 4, none⟩ = some (.int .i64 0) ∧ w'.cell? ⟨w.heap.size, 5, none⟩ = some (.int .i64 0))
          (first | (with_reducible assumption) | ((try go_split_ands); refine and_dep ?_ (fun hbX => ⟨cell_old hbX e0, cell_old hbX f0, cell_old hbX f1, cell_old hbX f2, cell_old hbX f3, cell_old hbX f4, cell_old hbX f5⟩); (with_reducible repeat first | assumption | exact below_old' (by assumption) (by assumption) | refine Below.drew ?_ | refine below_new_old ?_ _ | refine below_set_old ?_ (by exact Nat.le_refl _) _)))
          (first | (go_at_call 20; refine (kp.out _).mono ?_; rintro e w' ⟨rfl, hbel⟩; have hbw : Below wr.heap.size wr w' := below_old' hbel (by (try go_split_ands); with_reducible assumption); obtain ⟨hcc, hff⟩ := bcell hbel))
        all_goals
          go_wp2_with fail
          go_meet
          first
            | with_reducible exact ⟨_, rfl, rfl, Lib.hid (Blk.new _ _ _), Lib.hid hbw.size, Lib.hid (below_new_old hbw _)⟩
            | exact ⟨wr.heap.size, rfl, rfl, Lib.hid (Blk.setRow (((Blk.new wr 49 #[.bool false, .int .u8 0, .int .u8 0, .int .u32 0, .int .i64 0, .int .i64 0]).drew).later hbel) [.bool true, .int .u8 cd, .int .u8 10, .int .u32 T, .int .i64 0, .int .i64 0] rfl), Lib.hid (Nat.le_refl _), Lib.hid (below_setRow (Nat.le_refl _) [.bool true, .int .u8 cd, .int .u8 10, .int .u32 T, .int .i64 0, .int .i64 0] w' 0 hbw)⟩
      case rest =>
        obtain ⟨g2, rfl, rfl, B2, G2, HB⟩ := hcut
        have hgB := B.out.lt
        have hne : g2 ≠ w.heap.size := by have := G2.out; omega
        replace U := Lib.hid (U.out.later HB.out)
        replace B := Lib.hid (B.out.later HB.out)
        replace HO := Lib.hid (HO.out.below HB.out)
        clear G2 HB e0 e1 e2 hU f0 f1 f2 f3 f4 f5 hgB
        obtain ⟨w1, rfl⟩ : ∃ w1 : World, w1 = wc := ⟨_, rfl⟩
        obtain ⟨_, _, e, hbB', e0, e1, e2⟩ := rows3 (HA.out.keep (fun p hp => U.out.cell hp)) hlt
        injection e with e
        injection e with ea eb
        subst ea eb
        rw [← HHZ.out] at e1
        have z0 := B.out.frozen
        have p0 := B.out.at 0 _ rfl
        have p1 := B.out.at 1 _ rfl
        have p2 := B.out.at 2 _ rfl
        have p3 := B.out.at 3 _ rfl
        have p4 := B.out.at 4 _ rfl
        have p5 := B.out.at 5 _ rfl
        have r0 := B2.out.at 0 _ rfl
        have r1 := B2.out.at 1 _ rfl
        have r2 := B2.out.at 2 _ rfl
        have r3 := B2.out.at 3 _ rfl
        have r4 := B2.out.at 4 _ rfl
        have r5 := B2.out.at 5 _ rfl
        obtain ⟨hold, hh⟩ : ∃ hold : Nat, (hold : Int) = 1 + hz % 10 := ⟨(1 + hz % 10).toNat, by omega⟩
        have hh10 : hold ≤ 10 := by omega
        have hh1 : 1 ≤ hold := by omega
        rw [← hh] at HT3
        have HH := Lib.hid hh
        clear hh
        go_wp2_with fail
        rw [← HH.out]
        clear HH
        have bS := B.out.setRow [.bool true, .int .u8 cd, .int .u8 10, .int .u32 T, .int .i64 0, .int .i64 0] rfl
        have oS := Owns.setRow w.heap.size [.bool true, .int .u8 cd, .int .u8 10, .int .u32 T, .int .i64 0, .int .i64 0] w1 0 (fun g he => by have := (HO.out.block g he).1; omega) HO.out
        have uS : Bel w _ := below_setRow (Nat.le_refl w.heap.size) [.bool true, .int .u8 cd, .int .u8 10, .int .u32 T, .int .i64 0, .int .i64 0] w1 0 U.out
        clear p0 p1 p2 p3 p4 p5 r0 r1 r2 r3 r4 r5 z0 e0 e1 e2 B2 hne
        obtain ⟨g0, rfl⟩ : ∃ g0, g0 = gk := ⟨_, rfl⟩
        go_loopg [6, 10, 12] (hold + 3) (fun gq s6 s10 s12 wr => ∃ (j : Nat) (A' : Option Addr) (c' : Nat) (PL' : List Sent) (x0 : Bool) (x1 x2 x3 x4 x5 : Int), gq + j = hold + 3 ∧ s12 = .int .i64 j ∧ s10 = .int .u8 0 ∧ s6 = .slice A' PL'.length c' ∧ Hid ((⟨x0, x1, x2, x3, x4, x5⟩ : Ev.Snd) = SS cd T hold j) ∧ Hid (Owns wr (w.heap.size + 1) 65 7 A' PL'.length c' (PL'.flatMap Sent.row)) ∧ Hid (∀ p ∈ PL', good t l (k + 1) p) ∧ Hid (PL'.length = PL.length + j) ∧ Hid (Blk wr w.heap.size 49 #[.bool x0, .int .u8 x1, .int .u8 x2, .int .u32 x3, .int .i64 x4, .int .i64 x5]) ∧ Hid (Bel w wr))
        case atStart => exact ⟨0, A', c', PL, true, cd, 10, T, 0, 0, rfl, rfl, rfl, rfl, Lib.hid rfl, Lib.hid oS, Lib.hid (good_more HG.out), Lib.hid rfl, Lib.hid bS, Lib.hid uS⟩
        case round =>
          clear oS uS bS HO U B
          obtain ⟨q, A', c', PL', x0, x1, x2, x3, x4, x5, hq, rfl, rfl, rfl, HX, HO, HG', HN', B, U⟩ := hrel
          have hbs := U.out.size
          have hq0 : (0 : Int) ≤ (q : Int) := by omega
          have hN156 : PL'.length ≤ 200 := by have := HN.out; have := HN'.out; omega
          rcases Nat.lt_trichotomy q hold with hqh | hqh | hqh
          · have kj := fun W => Next_any x0 x1 x2 x3 x4 x5 160 W
            rw [HX.out, SS_on cd T hold q hqh hh10] at kj
            obtain ⟨mk, hmk⟩ : ∃ mk, mk = (160 * (q : Int) == 0) := ⟨_, rfl⟩
            rw [← hmk] at kj
            clear hmk
            obtain ⟨y, hy⟩ : ∃ y, y = SS cd T hold (q + 1) := ⟨_, rfl⟩
            rw [← hy] at kj
            obtain ⟨y0, y1, y2, y3, y4, y5⟩ := y
            simp only [Ev.Snd.row] at kj
            replace kj := Lib.hid kj
            have HY := Lib.hid hy
            clear hy
            have hq1 : (q : Int) < (hold : Int) + 3 := by omega
            have hq2 : ((q : Int) == (hold : Int)) = false := by rw [beq_eq_false_iff_ne]; omega
            have hq3 : (q : Int) ≤ 10 := by omega
            have p0 := B.out.at 0 _ rfl
            have p1 := B.out.at 1 _ rfl
            have p2 := B.out.at 2 _ rfl
            have p3 := B.out.at 3 _ rfl
            have p4 := B.out.at 4 _ rfl
            have p5 := B.out.at 5 _ rfl
            go_wp2_with fail
            refine (kj.out _).mono ?_
            rintro e w3 ⟨rfl, hb3⟩
            have hgl := B.out.lt
            replace U := Lib.hid (U.out.later hb3)
            replace B := Lib.hid (B.out.later hb3)
            replace HO := Lib.hid (HO.out.below hb3)
            clear hb3 p0 p1 p2 p3 p4 p5
            have hgl3 := B.out.lt
            have hbs3 := U.out.size
            go_wp2_with (at_builtin
                         go_loud (refine wpList_append_one rfl _ _ 61 rfl (w.heap.size + 1) 65 7 24 _ Try.underlying61 info_sent rfl (by decide) A' PL'.length c' _ rfl ((HO.out.alloc _).alloc _) [.int .i64 k, .int .u32 T, .bool mk, .int .u8 cd, .bool false, .int .u8 10, .int .u16 (160 * ((q : Int) + 1))] rfl (by simp [Value.oneCell']) (by rw [size_alloc2]; rfl) (by unfold maxLen; omega) (by omega) (by simp; omega) ?_)
                         intro A2 c2 w5 hown2 hg2 hlt2
                         have hne1 : some w3.heap.size ≠ ownB A' := fun he => by have := (HO.out.block _ he.symm).2; omega
                         have hne2 : some w.heap.size ≠ ownB A' := fun he => by have := (HO.out.block _ he.symm).1; omega
                         have B3 := ((Blk.new w3 49 #[.bool y0, .int .u8 y1, .int .u8 y2, .int .u32 y3, .int .i64 y4, .int .i64 y5]).push _).grown hg2 hne1
                         have B4 := ((B.out.push _).push _).grown hg2 hne2
                         have hU5 : Bel w w5 := ((U.out.push _).push _).grown hg2 (by simp; omega) (fun g e => by have := (HO.out.block g e).1; omega)
                         have hO5 := own_more (PL := PL') (p := Sent.mk k T mk cd false 10 (160 * ((q : Int) + 1))) hown2
                         have z0 := B4.frozen
                         have m0 := B3.at 0 _ rfl
                         have m1 := B3.at 1 _ rfl
                         have m2 := B3.at 2 _ rfl
                         have m3 := B3.at 3 _ rfl
                         have m4 := B3.at 4 _ rfl
                         have m5 := B3.at 5 _ rfl
                         have n0 := B4.at 0 _ rfl
                         have n1 := B4.at 1 _ rfl
                         have n2 := B4.at 2 _ rfl
                         have n3 := B4.at 3 _ rfl
                         have n4 := B4.at 4 _ rfl
                         have n5 := B4.at 5 _ rfl
                         have B3 := Lib.hid B3
                         have B4 := Lib.hid B4
                         have hU5 := Lib.hid hU5
                         have hO5 := Lib.hid hO5
                         clear hown2 hne1 hne2 hlt2)
            have hnw : w3.heap.size ≠ w.heap.size := by omega
            go_wp2_with fail
            go_roundg (gk - 1)
            case measure => omega
            case rel =>
              refine ⟨q + 1, A2, c2, PL' ++ [Sent.mk k T mk cd false 10 (160 * ((q : Int) + 1))], y0, y1, y2, y3, y4, y5, by omega, by go_num, rfl, by rw [List.length_append, List.length_singleton], HY, ?_, Lib.hid ?_, Lib.hid (by have := HN'.out; simp; omega), Lib.hid (B4.out.setRow [.bool y0, .int .u8 y1, .int .u8 y2, .int .u32 y3, .int .i64 y4, .int .i64 y5] rfl), Lib.hid (below_setRow (Nat.le_refl _) [.bool y0, .int .u8 y1, .int .u8 y2, .int .u32 y3, .int .i64 y4, .int .i64 y5] _ 0 hU5.out)⟩
              · exact Lib.hid (Owns.setRow w.heap.size [.bool y0, .int .u8 y1, .int .u8 y2, .int .u32 y3, .int .i64 y4, .int .i64 y5] _ 0 (fun g he => by have := (hO5.out.block g he).1; omega) hO5.out)
              · intro p hp
                rcases List.mem_append.1 hp with hp | hp
                · exact HG'.out p hp
                · rw [List.mem_singleton.1 hp]
                  exact ⟨k, by omega, rfl, HTT.out, HCD.out, by simp only; omega, by simp only; omega⟩
          · subst hqh
            have kr := fun W => Release_any x0 x1 x2 x3 x4 x5 W
            rw [HX.out, SS_rel cd T q hh10] at kr
            have kj0 := SS_off cd T q q (Nat.le_refl _) (by omega) hh10
            rw [Nat.sub_self] at kj0
            generalize eventsFrames.st cd 10 T (160 * (q : Int)) 0 = u at kr kj0
            obtain ⟨u0, u1, u2, u3, u4, u5⟩ := u
            simp only [Ev.Snd.row] at kr
            replace kr := Lib.hid kr
            have kj := fun W => Next_any u0 u1 u2 u3 u4 u5 160 W
            rw [kj0] at kj
            clear kj0
            obtain ⟨y, hy⟩ : ∃ y, y = SS cd T q (q + 1) := ⟨_, rfl⟩
            rw [← hy] at kj
            obtain ⟨y0, y1, y2, y3, y4, y5⟩ := y
            simp only [Ev.Snd.row] at kj
            replace kj := Lib.hid kj
            have HY := Lib.hid hy
            clear hy
            have hq1 : (q : Int) < (q : Int) + 3 := by omega
            have hq2 : ((q : Int) == (q : Int)) = true := by simp
            have hq3 : (q : Int) ≤ 10 := by omega
            have hq5 : (1 : Int) ≤ (q : Int) := by omega
            have p0 := B.out.at 0 _ rfl
            have p1 := B.out.at 1 _ rfl
            have p2 := B.out.at 2 _ rfl
            have p3 := B.out.at 3 _ rfl
            have p4 := B.out.at 4 _ rfl
            have p5 := B.out.at 5 _ rfl
            go_wp2_with fail
            refine (kr.out _).mono ?_
            rintro e w2 ⟨rfl, hb2⟩
            replace U := Lib.hid (U.out.later hb2)
            replace B := Lib.hid (B.out.later hb2)
            replace HO := Lib.hid (HO.out.below hb2)
            clear hb2 p0 p1 p2 p3 p4 p5
            have hbs2 := U.out.size
            have hgl2 := B.out.lt
            have z0 := B.out.frozen
            have p0 := B.out.at 0 _ rfl
            have p1 := B.out.at 1 _ rfl
            have p2 := B.out.at 2 _ rfl
            have p3 := B.out.at 3 _ rfl
            have p4 := B.out.at 4 _ rfl
            have p5 := B.out.at 5 _ rfl
            replace HO := Lib.hid (Owns.setRow w.heap.size [.bool u0, .int .u8 u1, .int .u8 u2, .int .u32 u3, .int .i64 u4, .int .i64 u5] w2 0 (fun g he => by have := (HO.out.block g he).1; omega) HO.out)
            have U' : Hid (Bel w (setRow w.heap.size w2 0 [.bool u0, .int .u8 u1, .int .u8 u2, .int .u32 u3, .int .i64 u4, .int .i64 u5])) := Lib.hid (below_setRow (Nat.le_refl w.heap.size) [.bool u0, .int .u8 u1, .int .u8 u2, .int .u32 u3, .int .i64 u4, .int .i64 u5] w2 0 U.out)
            replace B := Lib.hid (B.out.setRow [.bool u0, .int .u8 u1, .int .u8 u2, .int .u32 u3, .int .i64 u4, .int .i64 u5] rfl)
            have U := U'
            clear U'
            simp only [setRow] at HO B U
            go_wp2_with fail
            refine (kj.out _).mono ?_
            rintro e w3 ⟨rfl, hb3⟩
            have hgl := B.out.lt
            replace U := Lib.hid (U.out.later hb3)
            replace B := Lib.hid (B.out.later hb3)
            replace HO := Lib.hid (HO.out.below hb3)
            clear hb3 p0 p1 p2 p3 p4 p5
            have hgl3 := B.out.lt
            have hbs3 := U.out.size
            go_wp2_with (at_builtin
                         go_loud (refine wpList_append_one rfl _ _ 61 rfl (w.heap.size + 1) 65 7 24 _ Try.underlying61 info_sent rfl (by decide) A' PL'.length c' _ rfl ((HO.out.alloc _).alloc _) [.int .i64 k, .int .u32 T, .bool false, .int .u8 cd, .bool true, .int .u8 10, .int .u16 (160 * (q : Int))] rfl (by simp [Value.oneCell']) (by rw [size_alloc2]; rfl) (by unfold maxLen; omega) (by omega) (by simp; omega) ?_)
                         intro A2 c2 w5 hown2 hg2 hlt2
                         have hne1 : some w3.heap.size ≠ ownB A' := fun he => by have := (HO.out.block _ he.symm).2; omega
                         have hne2 : some w.heap.size ≠ ownB A' := fun he => by have := (HO.out.block _ he.symm).1; omega
                         have B3 := ((Blk.new w3 49 #[.bool y0, .int .u8 y1, .int .u8 y2, .int .u32 y3, .int .i64 y4, .int .i64 y5]).push _).grown hg2 hne1
                         have B4 := ((B.out.push _).push _).grown hg2 hne2
                         have hU5 : Bel w w5 := ((U.out.push _).push _).grown hg2 (by simp; omega) (fun g e => by have := (HO.out.block g e).1; omega)
                         have hO5 := own_more (PL := PL') (p := Sent.mk k T false cd true 10 (160 * (q : Int))) hown2
                         have z0 := B4.frozen
                         have m0 := B3.at 0 _ rfl
                         have m1 := B3.at 1 _ rfl
                         have m2 := B3.at 2 _ rfl
                         have m3 := B3.at 3 _ rfl
                         have m4 := B3.at 4 _ rfl
                         have m5 := B3.at 5 _ rfl
                         have n0 := B4.at 0 _ rfl
                         have n1 := B4.at 1 _ rfl
                         have n2 := B4.at 2 _ rfl
                         have n3 := B4.at 3 _ rfl
                         have n4 := B4.at 4 _ rfl
                         have n5 := B4.at 5 _ rfl
                         have B3 := Lib.hid B3
                         have B4 := Lib.hid B4
                         have hU5 := Lib.hid hU5
                         have hO5 := Lib.hid hO5
                         clear hown2 hne1 hne2 hlt2)
            have hnw : w3.heap.size ≠ w.heap.size := by omega
            go_wp2_with fail
            go_roundg (gk - 1)
            case measure => omega
            case rel =>
              refine ⟨q + 1, A2, c2, PL' ++ [Sent.mk k T false cd true 10 (160 * (q : Int))], y0, y1, y2, y3, y4, y5, by omega, by go_num, rfl, by rw [List.length_append, List.length_singleton], HY, ?_, Lib.hid ?_, Lib.hid (by have := HN'.out; simp; omega), Lib.hid (B4.out.setRow [.bool y0, .int .u8 y1, .int .u8 y2, .int .u32 y3, .int .i64 y4, .int .i64 y5] rfl), Lib.hid (below_setRow (Nat.le_refl _) [.bool y0, .int .u8 y1, .int .u8 y2, .int .u32 y3, .int .i64 y4, .int .i64 y5] _ 0 hU5.out)⟩
              · exact Lib.hid (Owns.setRow w.heap.size [.bool y0, .int .u8 y1, .int .u8 y2, .int .u32 y3, .int .i64 y4, .int .i64 y5] _ 0 (fun g he => by have := (hO5.out.block g he).1; omega) hO5.out)
              · intro p hp
                rcases List.mem_append.1 hp with hp | hp
                · exact HG'.out p hp
                · rw [List.mem_singleton.1 hp]
                  exact ⟨k, by omega, rfl, HTT.out, HCD.out, by simp only; omega, by simp only; omega⟩
          · by_cases hq4 : q < hold + 3
            · have kj := fun W => Next_any x0 x1 x2 x3 x4 x5 160 W
              rw [HX.out, show SS cd T hold q = eventsFrames.st cd 10 T (160 * (hold : Int)) (q - hold) from by unfold SS; rw [if_neg (by omega)], SS_off cd T hold q (by omega) hq4 hh10] at kj
              obtain ⟨y, hy⟩ : ∃ y, y = SS cd T hold (q + 1) := ⟨_, rfl⟩
              rw [← hy] at kj
              obtain ⟨y0, y1, y2, y3, y4, y5⟩ := y
              simp only [Ev.Snd.row] at kj
              replace kj := Lib.hid kj
              have HY := Lib.hid hy
              clear hy
              have hq1 : (q : Int) < (hold : Int) + 3 := by omega
              have hq2 : ((q : Int) == (hold : Int)) = false := by rw [beq_eq_false_iff_ne]; omega
              have hq3 : (hold : Int) ≤ 10 := by omega
              have hq5 : (1 : Int) ≤ (hold : Int) := by omega
              have p0 := B.out.at 0 _ rfl
              have p1 := B.out.at 1 _ rfl
              have p2 := B.out.at 2 _ rfl
              have p3 := B.out.at 3 _ rfl
              have p4 := B.out.at 4 _ rfl
              have p5 := B.out.at 5 _ rfl
              go_wp2_with fail
              refine (kj.out _).mono ?_
              rintro e w3 ⟨rfl, hb3⟩
              have hgl := B.out.lt
              replace U := Lib.hid (U.out.later hb3)
              replace B := Lib.hid (B.out.later hb3)
              replace HO := Lib.hid (HO.out.below hb3)
              clear hb3 p0 p1 p2 p3 p4 p5
              have hgl3 := B.out.lt
              have hbs3 := U.out.size
              go_wp2_with (at_builtin
                           go_loud (refine wpList_append_one rfl _ _ 61 rfl (w.heap.size + 1) 65 7 24 _ Try.underlying61 info_sent rfl (by decide) A' PL'.length c' _ rfl ((HO.out.alloc _).alloc _) [.int .i64 k, .int .u32 T, .bool false, .int .u8 cd, .bool true, .int .u8 10, .int .u16 (160 * (hold : Int))] rfl (by simp [Value.oneCell']) (by rw [size_alloc2]; rfl) (by unfold maxLen; omega) (by omega) (by simp; omega) ?_)
                           intro A2 c2 w5 hown2 hg2 hlt2
                           have hne1 : some w3.heap.size ≠ ownB A' := fun he => by have := (HO.out.block _ he.symm).2; omega
                           have hne2 : some w.heap.size ≠ ownB A' := fun he => by have := (HO.out.block _ he.symm).1; omega
                           have B3 := ((Blk.new w3 49 #[.bool y0, .int .u8 y1, .int .u8 y2, .int .u32 y3, .int .i64 y4, .int .i64 y5]).push _).grown hg2 hne1
                           have B4 := ((B.out.push _).push _).grown hg2 hne2
                           have hU5 : Bel w w5 := ((U.out.push _).push _).grown hg2 (by simp; omega) (fun g e => by have := (HO.out.block g e).1; omega)
                           have hO5 := own_more (PL := PL') (p := Sent.mk k T false cd true 10 (160 * (hold : Int))) hown2
                           have z0 := B4.frozen
                           have m0 := B3.at 0 _ rfl
                           have m1 := B3.at 1 _ rfl
                           have m2 := B3.at 2 _ rfl
                           have m3 := B3.at 3 _ rfl
                           have m4 := B3.at 4 _ rfl
                           have m5 := B3.at 5 _ rfl
                           have n0 := B4.at 0 _ rfl
                           have n1 := B4.at 1 _ rfl
                           have n2 := B4.at 2 _ rfl
                           have n3 := B4.at 3 _ rfl
                           have n4 := B4.at 4 _ rfl
                           have n5 := B4.at 5 _ rfl
                           have B3 := Lib.hid B3
                           have B4 := Lib.hid B4
                           have hU5 := Lib.hid hU5
                           have hO5 := Lib.hid hO5
                           clear hown2 hne1 hne2 hlt2)
              have hnw : w3.heap.size ≠ w.heap.size := by omega
              go_wp2_with fail
              go_roundg (gk - 1)
              case measure => omega
              case rel =>
                refine ⟨q + 1, A2, c2, PL' ++ [Sent.mk k T false cd true 10 (160 * (hold : Int))], y0, y1, y2, y3, y4, y5, by omega, by go_num, rfl, by rw [List.length_append, List.length_singleton], HY, ?_, Lib.hid ?_, Lib.hid (by have := HN'.out; simp; omega), Lib.hid (B4.out.setRow [.bool y0, .int .u8 y1, .int .u8 y2, .int .u32 y3, .int .i64 y4, .int .i64 y5] rfl), Lib.hid (below_setRow (Nat.le_refl _) [.bool y0, .int .u8 y1, .int .u8 y2, .int .u32 y3, .int .i64 y4, .int .i64 y5] _ 0 hU5.out)⟩
                · exact Lib.hid (Owns.setRow w.heap.size [.bool y0, .int .u8 y1, .int .u8 y2, .int .u32 y3, .int .i64 y4, .int .i64 y5] _ 0 (fun g he => by have := (hO5.out.block g he).1; omega) hO5.out)
                · intro p hp
                  rcases List.mem_append.1 hp with hp | hp
                  · exact HG'.out p hp
                  · rw [List.mem_singleton.1 hp]
                    exact ⟨k, by omega, rfl, HTT.out, HCD.out, by simp only; omega, by simp only; omega⟩
            · obtain rfl : q = hold + 3 := by omega
              have hz := HX.out
              rw [SS_end] at hz
              simp only [Ev.Snd.zero, Ev.Snd.mk.injEq] at hz
              obtain ⟨rfl, rfl, rfl, rfl, rfl, rfl⟩ := hz
              have hq1 : (hold : Int) + 3 ≤ (hold : Int) + 3 := Int.le_refl _
              have hh10' : (hold : Int) ≤ 10 := by omega
              go_wp2_with fail
              go_roundg (g0 - 1)
              case measure => omega
              case rel => exact ⟨k + 1, A', c', PL', _, by omega, by go_num, rfl, rfl, HT3, HO, HG', Lib.hid (by have := HN.out; have := HN'.out; omega), B, U⟩
    · obtain rfl : k = l.length := by omega
      have hi1 : (l.length : Int) ≤ (l.length : Int) := Int.le_refl _
      go_wp2_with fail
      go_ret2
      exact ⟨A', c', PL, rfl, Owns.rowsNew HO.out rfl (fun _ => rfl) (by omega), HG.out, HN.out, U.out⟩
end Go.Proofs.Ytangooegialmcaa.eventsOnce

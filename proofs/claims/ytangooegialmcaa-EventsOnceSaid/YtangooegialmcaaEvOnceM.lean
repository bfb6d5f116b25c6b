/- Layer 29, EventsOnce: for every keys and arrivals the law returns true. -/
import Derived.Test.YtangooegialmcaaEvOnceT
import Derived.Test.YtangooegialmcaaEvTypes
import Derived.Test.YtangooegialmcaaStep
namespace Go.Proofs.Ytangooegialmcaa.eventsOnce
open Go.RowKit
set_option linter.unusedVariables false
set_option linter.unusedSimpArgs false
attribute [local go_sem ↓] run_min_plain run_max_plain
attribute [local go_sem] setCell_drewN alloc_drewN
theorem RowsAt.take {α : Type} {row : α → List Value} {w : World} {B size : Nat} {A : Option Addr} {l : List α} (h : RowsAt w B size row A l) (n : Nat) : RowsAt w B size row A (l.take n) := fun h0 => by
  obtain ⟨b, off, rfl, hb, hc⟩ := h (by simp at h0; omega)
  refine ⟨b, off, rfl, hb, fun i a ha j v hv => hc i a ?_ j v hv⟩
  rw [List.getElem?_take] at ha
  split at ha
  · exact ha
  · cases ha
/-- what the receiver has heard -/
def Inv (t : Int) (l : List TStroke) (PL : List Sent) (la ln : Int) (en : Bool) (R : Ev.Rcv) : Prop :=
  (la = -1 ∧ ln = 0 ∧ en = true ∧ R = ⟨false, 0, 0, 0, false⟩) ∨ (∃ i : Nat, i < l.length ∧ la = i ∧ (∃ p ∈ PL, p.key = la) ∧ R = ⟨true, TT t l i, (sk l i).code, ln, en⟩ ∧ 0 ≤ ln ∧ ln ≤ 65535)
def HeardL (w0 : World) (y0 : Bool) (y1 y2 y3 : Int) (y4 : Bool) (ks : List Ev.Key) (e : Ending) (w' : World) : Prop :=
  ∃ (A : Option Addr) (c : Nat), e = .returned (.tuple #[.agg #[.bool y0, .int .u32 y1, .int .u8 y2, .int .i64 y3, .bool y4], .slice A ks.length c]) ∧ RowsNew w0.heap.size w' 4 Ev.Key.row A ks ∧ Below w0.heap.size w0 w'
theorem heard_any (x0 : Bool) (x1 x2 x3 : Int) (x4 : Bool) (T c : Int) (f : Bool) (v d : Int) (t0 : 0 ≤ T) (t1 : T ≤ 4294967295) (d0 : 0 ≤ d) (d1 : d ≤ 65535) (l0 : 0 ≤ x3) (l1 : x3 ≤ 65535) (y0 : Bool) (y1 y2 y3 : Int) (y4 : Bool) (ks : List Ev.Key) (h : Ev.hear ⟨x0, x1, x2, x3, x4⟩ T ⟨c, f, v, d⟩ = (⟨y0, y1, y2, y3, y4⟩, ks)) (w : World) :
    Calls Try.prog 12 #[.agg #[.bool x0, .int .u32 x1, .int .u8 x2, .int .i64 x3, .bool x4], .int .u32 T, .agg #[.int .u8 c, .bool f, .int .u8 v, .int .u16 d]] w (HeardL w y0 y1 y2 y3 y4 ks) := by
  have k := Hear_any x0 x1 x2 x3 x4 T c f v d w t0 t1 d0 d1 (by omega) (by omega)
  rw [h] at k
  exact k
theorem own_key {w : World} {base c n : Nat} {e : TypeId} {A : Option Addr} {K : List Ev.Key} {p : Ev.Key} {m : Nat} (h : Owns w base e 4 A (n + 1) c (K.flatMap Ev.Key.row ++ Ev.Key.row p)) (hn : m = n + 1) : Owns w base e 4 A m c ((K ++ [p]).flatMap Ev.Key.row) := by
  subst hn
  rw [List.flatMap_append]
  simpa using h
set_option maxRecDepth 100000 in
set_option maxHeartbeats 0 in
theorem main (w : World) (t : Int) (t0 : 0 ≤ t) (t1 : t ≤ 4294967295) (A : Option Addr) (l0 : List TStroke) (c : Nat) (hl : l0.length ≤ c) (hc : c ≤ maxLen) (hA : RowsAt w w.heap.size 3 TStroke.row A l0) (hok : ∀ a ∈ l0, a.ok) (B : Option Addr) (us : List Int) (d : Nat) (hB : IntsAt w w.heap.size .u16 B us) (hu : Within 0 65535 us) (hum : us.length ≤ maxLen) :
    Calls Try.prog 8 #[.int .u32 t, .slice A l0.length c, .slice B us.length d] w fun e w' => e = .returned (.bool true) ∧ Below w.heap.size w w' := by
  obtain ⟨l, hl12⟩ : ∃ l, l = l0.take 12 := ⟨_, rfl⟩
  have hln : min (l0.length : Int) 12 = (l.length : Int) := by rw [hl12]; simp; omega
  have hl12' : l.length ≤ 12 := by rw [hl12]; simp; omega
  have hlc : l.length ≤ c := by rw [hl12]; simp; omega
  have hA' : RowsAt w w.heap.size 3 TStroke.row A l := by rw [hl12]; exact RowsAt.take hA 12
  have hok' : ∀ a ∈ l, a.ok := by rw [hl12]; exact fun a ha => hok a (List.mem_of_mem_take ha)
  have ks := Lib.hid (send_any w t t0 t1 A l c hlc hl12' hA' hok')
  have HA := Lib.hid hA'
  have HOK := Lib.hid hok'
  have HB := Lib.hid hB
  have HUB := Lib.hid hu
  unfold maxLen at hc hum
  have i0 : (0 : Int) ≤ (l.length : Int) := by omega
  have i1 : (l.length : Int) ≤ (c : Int) := by omega
  clear hA hA' hok hok' hB hu hl12
  go_enter Try.func8, Try.ntmps8
  go_wp2_with fail
  clear hln
  refine ks.out.mono ?_
  rintro e w1 ⟨A1, c1, PL, rfl, hP, hgood, hlen, hb1⟩
  have HP := Lib.hid hP.1
  have HG := Lib.hid hgood
  have U1 : Hid (Below w.heap.size w w1) := Lib.hid hb1
  replace HA := Lib.hid (HA.out.later hb1)
  replace HB := Lib.hid (HB.out.later hb1)
  clear hP hgood hb1 ks
  by_cases hn0 : PL.length = 0
  · have hn : ((PL.length : Int) == 0) = true := by rw [hn0]; rfl
    clear hn0
    go_wp2_with fail
    refine (lives29 _).mono ?_
    rintro e w2 ⟨rfl, hb2⟩
    go_wp2_with fail
    go_ret
    exact ⟨rfl, Bel.later U1.out hb2⟩
  · have hn : ((PL.length : Int) == 0) = false := by rw [beq_eq_false_iff_ne]; omega
    have hn1 : (1 : Int) ≤ (PL.length : Int) := by omega
    have hn2 : PL.length ≤ 200 := by omega
    go_wp2_with fail
    go_loopg [10, 11, 12, 13] 100 (fun gk s10 s11 s12 s13 wr => ∃ (k : Nat) (la ln : Int) (en : Bool) (x0 : Bool) (x1 x2 x3 : Int) (x4 : Bool), gk + k = 100 ∧ k ≤ us.length ∧ s13 = .int .i64 k ∧ s10 = .int .i64 la ∧ s11 = .int .i64 ln ∧ s12 = .bool en ∧ Hid (Inv t l PL la ln en ⟨x0, x1, x2, x3, x4⟩) ∧ Hid (Blk wr w1.heap.size 24 #[.bool x0, .int .u32 x1, .int .u8 x2, .int .i64 x3, .bool x4]) ∧ Hid (Bel w1 wr))
    case atStart => exact ⟨0, -1, 0, true, false, 0, 0, 0, false, rfl, Nat.zero_le _, rfl, rfl, rfl, rfl, Lib.hid (.inl ⟨rfl, rfl, rfl, rfl⟩), Lib.hid (Blk.new w1 _ _), Lib.hid ((Bel.refl w1).push _)⟩
    case round =>
      obtain ⟨k, la, ln, en, x0, x1, x2, x3, x4, hg, hk, rfl, rfl, rfl, rfl, HI, BR, U⟩ := hrel
      by_cases hlt : k < us.length
      · by_cases h100 : k < 100
        · have hi0 : (0 : Int) ≤ (k : Int) := by omega
          have hi1 : (k : Int) < (us.length : Int) := by omega
          have hi2 : (k : Int) < 100 := by omega
          obtain ⟨ub, uoff, rfl, hubB, ucell⟩ := HB.out (by omega)
          have e0 : wr.cell? ⟨ub, uoff + k, none⟩ = some (.int .u16 (us.getD k 0)) := (U.out.cell (p := ⟨ub, uoff + k, none⟩) hubB).trans (ucell k hlt)
          obtain ⟨u0, u1⟩ := HUB.out.at hlt
          clear ucell
          generalize us.getD k 0 = u at *
          have v0 := Int.emod_nonneg u (b := (PL.length : Int)) (by omega)
          have v1 := Int.emod_lt_of_pos u (b := (PL.length : Int)) (by omega)
          obtain ⟨q, hq⟩ := Int.eq_ofNat_of_zero_le v0
          rw [hq] at v1
          have hqn : q < PL.length := by omega
          have hq0 : (0 : Int) ≤ (q : Int) := by omega
          obtain ⟨a, ha⟩ : ∃ a, PL[q]? = some a := ⟨_, List.getElem?_eq_getElem hqn⟩
          have hmem := List.mem_of_getElem? ha
          obtain ⟨i, hil, hik, hiT, hic, hid0, hid1⟩ := HG.out a hmem
          obtain ⟨pb, poff, rfl, hpB, c0, c1', c2, c3, c4, c5, c6⟩ := rows7 (HP.out.later U.out) ha
          obtain ⟨key, T, mk, cd, fin, vol, dur⟩ := a
          simp only at hik hiT hic hid0 hid1 c0 c1' c2 c3 c4 c5 c6
          subst hik
          have hmemk : Hid (∃ p ∈ PL, p.key = (i : Int)) := Lib.hid ⟨_, hmem, rfl⟩
          have hTb := TT_bd t l i
          rw [← hiT] at hTb
          have HTT := Lib.hid hiT
          have HCD := Lib.hid hic
          obtain ⟨T0, T1⟩ := hTb
          obtain ⟨lb, loff, hlA, hlB, g0, g1, g2⟩ := rows3 HA.out hil
          subst hlA
          have GI : w1.cell? ⟨lb, loff + i * 3, none⟩ = some (.int .u8 cd) := by
            obtain ⟨_, _, e, _, gg, _⟩ := rows3 HA.out hil
            injection e with e
            injection e with ea eb
            subst ea eb
            rw [gg, HCD.out]
          clear hmem ha hiT hic v0 g1 g2
          have HLi : Hid (w1.cell? ⟨lb, loff + i * 3, none⟩ = some (.int .u8 cd)) := Lib.hid GI
          rcases HI.out with ⟨hla, hln0, hen, hR⟩ | ⟨i0, hi0l, hla, hex, hR, hl0, hl1⟩
          · simp only [Ev.Rcv.mk.injEq] at hR
            obtain ⟨rfl, rfl, rfl, rfl, rfl⟩ := hR
            subst hla hln0 hen
            cases fin
            · have kh := Lib.hid fun W => heard_any false 0 0 0 false T cd false vol dur T0 T1 hid0 hid1 (by omega) (by omega) true T cd dur false [⟨cd, true, T, 0⟩] (by rw [Ev.hear_off]; rfl) W
              have INV : Hid (Inv t l PL (i) (dur) false ⟨true, T, cd, dur, false⟩) := Lib.hid (.inr ⟨i, hil, rfl, hmemk.out, by rw [← HTT.out, ← HCD.out], hid0, hid1⟩)
              have hm : max 0 dur = dur := by omega
              have hlt1 : (-1 : Int) < (i : Int) := by omega
              have hii0 : (0 : Int) ≤ (i : Int) := by omega
              have hii1 : (i : Int) < (l.length : Int) := by omega
              clear HI
              have hrp : w1.heap.size < wr.heap.size := BR.out.lt
              have hrn1 : wr.heap.size ≠ w1.heap.size := by omega
              have hrn2 : w1.heap.size ≠ wr.heap.size := by omega
              have f0 := BR.out.at 0 _ rfl
              have f1 := BR.out.at 1 _ rfl
              have f2 := BR.out.at 2 _ rfl
              have f3 := BR.out.at 3 _ rfl
              have f4 := BR.out.at 4 _ rfl
              go_wp2_with fail
              refine (kh.out _).mono ?_
              rintro e w2 ⟨A2, c2x, rfl, hKS, hb2⟩
              have hsb := hb2.size
              rw [size_alloc1] at hsb
              have hp2 : wr.heap.size < w2.heap.size := by omega
              have hr2 : w1.heap.size < w2.heap.size := by have := BR.out.lt; omega
              have h12 : w1.heap.size ≤ w2.heap.size := by omega
              have hlb2 : lb < w2.heap.size := by omega
              have BP := Lib.hid ((Blk.new wr 65 #[.int .i64 (i : Int), .int .u32 T, .bool mk, .int .u8 cd, .bool false, .int .u8 vol, .int .u16 dur]).later hb2)
              replace BR := Lib.hid ((BR.out.push _).later hb2)
              replace U := Lib.hid (Bel.later (U.out.push _) hb2)
              have RN := Lib.hid hKS
              clear hb2 hKS hsb f0 f1 f2 f3 f4 c0 c1' c2 c3 c4 c5 c6 e0 g0
              have z0 := BR.out.frozen
              have f0 := BR.out.at 0 _ rfl
              have f1 := BR.out.at 1 _ rfl
              have f2 := BR.out.at 2 _ rfl
              have f3 := BR.out.at 3 _ rfl
              have f4 := BR.out.at 4 _ rfl
              have p0 := BP.out.at 0 _ rfl
              have p1 := BP.out.at 1 _ rfl
              have p2 := BP.out.at 2 _ rfl
              have p3 := BP.out.at 3 _ rfl
              have p4 := BP.out.at 4 _ rfl
              have p5 := BP.out.at 5 _ rfl
              have p6 := BP.out.at 6 _ rfl
              go_wp2_with fail
              clear z0 f0 f1 f2 f3 f4 p0 p1 p2 p3 p4 p5 p6
              obtain ⟨W, hW⟩ : ∃ W, W = (setRow w1.heap.size w2 0 [.bool true, .int .u32 T, .int .u8 cd, .int .i64 (dur), .bool false]).alloc (.cells #[.bool true, .int .u32 T, .int .u8 cd, .int .i64 (dur), .bool false] 24) := ⟨_, rfl⟩
              replace BP : Hid (Blk W wr.heap.size _ _) := Lib.hid (by rw [hW]; exact (Blk.farRow (by omega) [.bool true, .int .u32 T, .int .u8 cd, .int .i64 (dur), .bool false] w2 0 BP.out).push _)
              replace BR : Hid (Blk W w1.heap.size _ #[.bool true, .int .u32 T, .int .u8 cd, .int .i64 (dur), .bool false]) := Lib.hid (by rw [hW]; exact (BR.out.setRow [.bool true, .int .u32 T, .int .u8 cd, .int .i64 (dur), .bool false] rfl).push _)
              replace U : Hid (Bel w1 W) := Lib.hid (by rw [hW]; exact Bel.push (below_setRow (Nat.le_refl _) [.bool true, .int .u32 T, .int .u8 cd, .int .i64 (dur), .bool false] w2 0 U.out) _)
              have RK : Hid (RowsAt W w2.heap.size 4 Ev.Key.row A2 [⟨cd, true, T, 0⟩]) := Lib.hid (by rw [hW]; exact rows_start RN.out (by rw [size_alloc1]; omega) [.bool true, .int .u32 T, .int .u8 cd, .int .i64 (dur), .bool false] _)
              have hsz : w2.heap.size ≤ W.heap.size := by rw [hW, size_alloc1, setRow_size]; omega
              have HO : Hid (Owns W w2.heap.size 70 4 none 0 0 (List.flatMap Ev.Key.row [])) := Lib.hid Owns.nil
              simp only [setRow] at hW
              rw [← hW]
              clear hW RN
              have g0 := (U.out.cell (p := ⟨lb, loff + i * 3, none⟩) hlB).trans HLi.out
              have p0 := BP.out.at 0 _ rfl
              have p1 := BP.out.at 1 _ rfl
              have p2 := BP.out.at 2 _ rfl
              have p3 := BP.out.at 3 _ rfl
              have p4 := BP.out.at 4 _ rfl
              have p5 := BP.out.at 5 _ rfl
              have p6 := BP.out.at 6 _ rfl
              have hU : Below w2.heap.size W W := Below.refl _ _
              have HPW := Lib.hid (HP.out.later U.out)
              go_wp2_with fail
              try simp +zetaDelta only [Act.put, List.setIfInBounds_toArray, List.set_cons_succ, List.set_cons_zero]
              go_region_held_law (fun w' => Below w2.heap.size W w' ∧ w'.cell? ⟨lb, loff + i * 3, none⟩ = some (.int .u8 cd) ∧ w'.cell? ⟨wr.heap.size, 0, none⟩ = some (.int .i64 (i : Int)) ∧ w'.cell? ⟨wr.heap.size, 1, none⟩ = some (.int .u32 T) ∧ w'.cell? ⟨wr.heap.size, 2, none⟩ = some (.bool mk) ∧ w'.cell? ⟨wr.heap.size, 3, none⟩ = some (.int .u8 cd) ∧ w'.cell? ⟨wr.heap.size, 4, none⟩ = some (.bool false) ∧ w'.cell? ⟨wr.heap.size, 5, none⟩ = some (.int .u8 vol) ∧ w'.cell? ⟨wr.heap.size, 6, none⟩ = some (.int .u16 dur))
                (first | (with_reducible assumption) | ((try go_split_ands); refine and_dep ?_ (fun hbX => ⟨cell_keep hbX hlb2 g0, cell_keep hbX hp2 p0, cell_keep hbX hp2 p1, cell_keep hbX hp2 p2, cell_keep hbX hp2 p3, cell_keep hbX hp2 p4, cell_keep hbX hp2 p5, cell_keep hbX hp2 p6⟩); (with_reducible repeat first | assumption | refine Below.drew ?_ | refine below_keep_alloc ?_ hsz _)))
                (first
                  | ((refine step_append_one 99 (by rfl) (by rfl) _ _ 26 (by rfl) w2.heap.size 70 4 16 _ Try.underlying26 info_key rfl (by decide) _ 0 _ _ (by rfl) (Owns.drew (Owns.alloc HO.out _)) W.heap.size [.int .u8 cd, .bool true, .int .u32 T, .int .i64 (0)] rfl (by simp [Value.oneCell']) (by rfl) ((Blk.new W _ _).drew) (by unfold maxLen; omega) (by omega) (by simp; omega) ?_); intro An cn wn hown hgr; have hbn : Below w2.heap.size W wn := (Below.drew (below_keep_alloc hU hsz _)).grown hgr (by simp; omega) (own_ge HO.out (Nat.le_refl _)))
                  )
              have BP' := Lib.hid (((BP.out.push _).drew).grown hgr (own_ne HO.out hp2))
              have BR' := Lib.hid (((BR.out.push _).drew).grown hgr (own_ne HO.out hr2))
              have U' : Hid (Bel w1 wn) := Lib.hid (((U.out.push _).drew).grown hgr (Nat.le_trans U.out.size (by simp)) (own_ge HO.out h12))
              have HO' := Lib.hid (own_key (K := []) (p := ⟨cd, true, T, 0⟩) (m := 1) hown rfl)
              have RK' := Lib.hid (RK.out.keep (fun p hp => hbn.cell hp))
              have hsz' : w2.heap.size ≤ wn.heap.size := Nat.le_trans hsz hbn.size
              clear HPW hsz BP BR U HO RK g0 p0 p1 p2 p3 p4 p5 p6 hU hown hgr hbn
              have BP := BP'
              have BR := BR'
              have U := U'
              have HO := HO'
              have RK := RK'
              have hsz := hsz'
              clear BP' BR' U' HO' RK' hsz'
              obtain ⟨W, rfl⟩ : ∃ W0 : World, W0 = wn := ⟨_, rfl⟩
              have p0 := BP.out.at 0 _ rfl
              have p1 := BP.out.at 1 _ rfl
              have p2 := BP.out.at 2 _ rfl
              have p3 := BP.out.at 3 _ rfl
              have p4 := BP.out.at 4 _ rfl
              have p5 := BP.out.at 5 _ rfl
              have p6 := BP.out.at 6 _ rfl
              go_wp2_with fail
              refine (same29 A2 _ [⟨cd, true, T, 0⟩] _ c2x _ rfl W (RK.out.more hsz) (Owns.rows HO.out rfl (fun _ => rfl)) (by simp)).mono ?_
              rintro e w3 ⟨rfl, hb3⟩
              replace U := Lib.hid (Bel.later U.out hb3)
              replace BR := Lib.hid (BR.out.later hb3)
              clear hb3 p0 p1 p2 p3 p4 p5 p6
              go_wp2_with fail
              go_roundg (gk - 1)
              case measure => omega
              case rel => exact ⟨k + 1, i, dur, false, true, T, cd, dur, false, by omega, by omega, by go_num, rfl, rfl, rfl, INV, BR, U⟩
            · have kh := Lib.hid fun W => heard_any false 0 0 0 false T cd true vol dur T0 T1 hid0 hid1 (by omega) (by omega) true T cd dur true [⟨cd, true, T, 0⟩, ⟨cd, false, T, dur⟩] (by rw [Ev.hear_off]; rfl) W
              have INV : Hid (Inv t l PL (i) (dur) true ⟨true, T, cd, dur, true⟩) := Lib.hid (.inr ⟨i, hil, rfl, hmemk.out, by rw [← HTT.out, ← HCD.out], hid0, hid1⟩)
              have hm : max 0 dur = dur := by omega
              have hlt1 : (-1 : Int) < (i : Int) := by omega
              have hii0 : (0 : Int) ≤ (i : Int) := by omega
              have hii1 : (i : Int) < (l.length : Int) := by omega
              clear HI
              have hrp : w1.heap.size < wr.heap.size := BR.out.lt
              have hrn1 : wr.heap.size ≠ w1.heap.size := by omega
              have hrn2 : w1.heap.size ≠ wr.heap.size := by omega
              have f0 := BR.out.at 0 _ rfl
              have f1 := BR.out.at 1 _ rfl
              have f2 := BR.out.at 2 _ rfl
              have f3 := BR.out.at 3 _ rfl
              have f4 := BR.out.at 4 _ rfl
              go_wp2_with fail
              refine (kh.out _).mono ?_
              rintro e w2 ⟨A2, c2x, rfl, hKS, hb2⟩
              have hsb := hb2.size
              rw [size_alloc1] at hsb
              have hp2 : wr.heap.size < w2.heap.size := by omega
              have hr2 : w1.heap.size < w2.heap.size := by have := BR.out.lt; omega
              have h12 : w1.heap.size ≤ w2.heap.size := by omega
              have hlb2 : lb < w2.heap.size := by omega
              have BP := Lib.hid ((Blk.new wr 65 #[.int .i64 (i : Int), .int .u32 T, .bool mk, .int .u8 cd, .bool true, .int .u8 vol, .int .u16 dur]).later hb2)
              replace BR := Lib.hid ((BR.out.push _).later hb2)
              replace U := Lib.hid (Bel.later (U.out.push _) hb2)
              have RN := Lib.hid hKS
              clear hb2 hKS hsb f0 f1 f2 f3 f4 c0 c1' c2 c3 c4 c5 c6 e0 g0
              have z0 := BR.out.frozen
              have f0 := BR.out.at 0 _ rfl
              have f1 := BR.out.at 1 _ rfl
              have f2 := BR.out.at 2 _ rfl
              have f3 := BR.out.at 3 _ rfl
              have f4 := BR.out.at 4 _ rfl
              have p0 := BP.out.at 0 _ rfl
              have p1 := BP.out.at 1 _ rfl
              have p2 := BP.out.at 2 _ rfl
              have p3 := BP.out.at 3 _ rfl
              have p4 := BP.out.at 4 _ rfl
              have p5 := BP.out.at 5 _ rfl
              have p6 := BP.out.at 6 _ rfl
              go_wp2_with fail
              clear z0 f0 f1 f2 f3 f4 p0 p1 p2 p3 p4 p5 p6
              obtain ⟨W, hW⟩ : ∃ W, W = (setRow w1.heap.size w2 0 [.bool true, .int .u32 T, .int .u8 cd, .int .i64 (dur), .bool true]).alloc (.cells #[.bool true, .int .u32 T, .int .u8 cd, .int .i64 (dur), .bool true] 24) := ⟨_, rfl⟩
              replace BP : Hid (Blk W wr.heap.size _ _) := Lib.hid (by rw [hW]; exact (Blk.farRow (by omega) [.bool true, .int .u32 T, .int .u8 cd, .int .i64 (dur), .bool true] w2 0 BP.out).push _)
              replace BR : Hid (Blk W w1.heap.size _ #[.bool true, .int .u32 T, .int .u8 cd, .int .i64 (dur), .bool true]) := Lib.hid (by rw [hW]; exact (BR.out.setRow [.bool true, .int .u32 T, .int .u8 cd, .int .i64 (dur), .bool true] rfl).push _)
              replace U : Hid (Bel w1 W) := Lib.hid (by rw [hW]; exact Bel.push (below_setRow (Nat.le_refl _) [.bool true, .int .u32 T, .int .u8 cd, .int .i64 (dur), .bool true] w2 0 U.out) _)
              have RK : Hid (RowsAt W w2.heap.size 4 Ev.Key.row A2 [⟨cd, true, T, 0⟩, ⟨cd, false, T, dur⟩]) := Lib.hid (by rw [hW]; exact rows_start RN.out (by rw [size_alloc1]; omega) [.bool true, .int .u32 T, .int .u8 cd, .int .i64 (dur), .bool true] _)
              have hsz : w2.heap.size ≤ W.heap.size := by rw [hW, size_alloc1, setRow_size]; omega
              have HO : Hid (Owns W w2.heap.size 70 4 none 0 0 (List.flatMap Ev.Key.row [])) := Lib.hid Owns.nil
              simp only [setRow] at hW
              rw [← hW]
              clear hW RN
              have g0 := (U.out.cell (p := ⟨lb, loff + i * 3, none⟩) hlB).trans HLi.out
              have p0 := BP.out.at 0 _ rfl
              have p1 := BP.out.at 1 _ rfl
              have p2 := BP.out.at 2 _ rfl
              have p3 := BP.out.at 3 _ rfl
              have p4 := BP.out.at 4 _ rfl
              have p5 := BP.out.at 5 _ rfl
              have p6 := BP.out.at 6 _ rfl
              have hU : Below w2.heap.size W W := Below.refl _ _
              have HPW := Lib.hid (HP.out.later U.out)
              go_wp2_with fail
              try simp +zetaDelta only [Act.put, List.setIfInBounds_toArray, List.set_cons_succ, List.set_cons_zero]
              go_region_held_law (fun w' => Below w2.heap.size W w' ∧ w'.cell? ⟨lb, loff + i * 3, none⟩ = some (.int .u8 cd) ∧ w'.cell? ⟨wr.heap.size, 0, none⟩ = some (.int .i64 (i : Int)) ∧ w'.cell? ⟨wr.heap.size, 1, none⟩ = some (.int .u32 T) ∧ w'.cell? ⟨wr.heap.size, 2, none⟩ = some (.bool mk) ∧ w'.cell? ⟨wr.heap.size, 3, none⟩ = some (.int .u8 cd) ∧ w'.cell? ⟨wr.heap.size, 4, none⟩ = some (.bool true) ∧ w'.cell? ⟨wr.heap.size, 5, none⟩ = some (.int .u8 vol) ∧ w'.cell? ⟨wr.heap.size, 6, none⟩ = some (.int .u16 dur))
                (first | (with_reducible assumption) | ((try go_split_ands); refine and_dep ?_ (fun hbX => ⟨cell_keep hbX hlb2 g0, cell_keep hbX hp2 p0, cell_keep hbX hp2 p1, cell_keep hbX hp2 p2, cell_keep hbX hp2 p3, cell_keep hbX hp2 p4, cell_keep hbX hp2 p5, cell_keep hbX hp2 p6⟩); (with_reducible repeat first | assumption | refine Below.drew ?_ | refine below_keep_alloc ?_ hsz _)))
                (first
                  | ((refine step_append_one 99 (by rfl) (by rfl) _ _ 26 (by rfl) w2.heap.size 70 4 16 _ Try.underlying26 info_key rfl (by decide) _ 0 _ _ (by rfl) (Owns.drew (Owns.alloc HO.out _)) W.heap.size [.int .u8 cd, .bool true, .int .u32 T, .int .i64 (0)] rfl (by simp [Value.oneCell']) (by rfl) ((Blk.new W _ _).drew) (by unfold maxLen; omega) (by omega) (by simp; omega) ?_); intro An cn wn hown hgr; have hbn : Below w2.heap.size W wn := (Below.drew (below_keep_alloc hU hsz _)).grown hgr (by simp; omega) (own_ge HO.out (Nat.le_refl _)))
                  )
              have BP' := Lib.hid (((BP.out.push _).drew).grown hgr (own_ne HO.out hp2))
              have BR' := Lib.hid (((BR.out.push _).drew).grown hgr (own_ne HO.out hr2))
              have U' : Hid (Bel w1 wn) := Lib.hid (((U.out.push _).drew).grown hgr (Nat.le_trans U.out.size (by simp)) (own_ge HO.out h12))
              have HO' := Lib.hid (own_key (K := []) (p := ⟨cd, true, T, 0⟩) (m := 1) hown rfl)
              have RK' := Lib.hid (RK.out.keep (fun p hp => hbn.cell hp))
              have hsz' : w2.heap.size ≤ wn.heap.size := Nat.le_trans hsz hbn.size
              clear HPW hsz BP BR U HO RK g0 p0 p1 p2 p3 p4 p5 p6 hU hown hgr hbn
              have BP := BP'
              have BR := BR'
              have U := U'
              have HO := HO'
              have RK := RK'
              have hsz := hsz'
              clear BP' BR' U' HO' RK' hsz'
              obtain ⟨W, rfl⟩ : ∃ W0 : World, W0 = wn := ⟨_, rfl⟩
              have g0 := (U.out.cell (p := ⟨lb, loff + i * 3, none⟩) hlB).trans HLi.out
              have p0 := BP.out.at 0 _ rfl
              have p1 := BP.out.at 1 _ rfl
              have p2 := BP.out.at 2 _ rfl
              have p3 := BP.out.at 3 _ rfl
              have p4 := BP.out.at 4 _ rfl
              have p5 := BP.out.at 5 _ rfl
              have p6 := BP.out.at 6 _ rfl
              have hU : Below w2.heap.size W W := Below.refl _ _
              have HPW := Lib.hid (HP.out.later U.out)
              go_wp2_with fail
              try simp +zetaDelta only [Act.put, List.setIfInBounds_toArray, List.set_cons_succ, List.set_cons_zero]
              go_region_held_law (fun w' => Below w2.heap.size W w' ∧ w'.cell? ⟨lb, loff + i * 3, none⟩ = some (.int .u8 cd) ∧ w'.cell? ⟨wr.heap.size, 0, none⟩ = some (.int .i64 (i : Int)) ∧ w'.cell? ⟨wr.heap.size, 1, none⟩ = some (.int .u32 T) ∧ w'.cell? ⟨wr.heap.size, 2, none⟩ = some (.bool mk) ∧ w'.cell? ⟨wr.heap.size, 3, none⟩ = some (.int .u8 cd) ∧ w'.cell? ⟨wr.heap.size, 4, none⟩ = some (.bool true) ∧ w'.cell? ⟨wr.heap.size, 5, none⟩ = some (.int .u8 vol) ∧ w'.cell? ⟨wr.heap.size, 6, none⟩ = some (.int .u16 dur))
                (first | (with_reducible assumption) | ((try go_split_ands); refine and_dep ?_ (fun hbX => ⟨cell_keep hbX hlb2 g0, cell_keep hbX hp2 p0, cell_keep hbX hp2 p1, cell_keep hbX hp2 p2, cell_keep hbX hp2 p3, cell_keep hbX hp2 p4, cell_keep hbX hp2 p5, cell_keep hbX hp2 p6⟩); (with_reducible repeat first | assumption | refine Below.drew ?_ | refine below_keep_alloc ?_ hsz _)))
                (first
                  | ((refine step_append_one 133 (by rfl) (by rfl) _ _ 26 (by rfl) w2.heap.size 70 4 16 _ Try.underlying26 info_key rfl (by decide) _ 1 _ _ (by rfl) (Owns.drew (Owns.alloc HO.out _)) W.heap.size [.int .u8 cd, .bool false, .int .u32 T, .int .i64 (dur)] rfl (by simp [Value.oneCell']) (by rfl) ((Blk.new W _ _).drew) (by unfold maxLen; omega) (by omega) (by simp; omega) ?_); intro An cn wn hown hgr; have hbn : Below w2.heap.size W wn := (Below.drew (below_keep_alloc hU hsz _)).grown hgr (by simp; omega) (own_ge HO.out (Nat.le_refl _)))
                  )
              have BP' := Lib.hid (((BP.out.push _).drew).grown hgr (own_ne HO.out hp2))
              have BR' := Lib.hid (((BR.out.push _).drew).grown hgr (own_ne HO.out hr2))
              have U' : Hid (Bel w1 wn) := Lib.hid (((U.out.push _).drew).grown hgr (Nat.le_trans U.out.size (by simp)) (own_ge HO.out h12))
              have HO' := Lib.hid (own_key (K := [⟨cd, true, T, 0⟩]) (p := ⟨cd, false, T, dur⟩) (m := 2) hown rfl)
              have RK' := Lib.hid (RK.out.keep (fun p hp => hbn.cell hp))
              have hsz' : w2.heap.size ≤ wn.heap.size := Nat.le_trans hsz hbn.size
              clear HPW hsz BP BR U HO RK g0 p0 p1 p2 p3 p4 p5 p6 hU hown hgr hbn
              have BP := BP'
              have BR := BR'
              have U := U'
              have HO := HO'
              have RK := RK'
              have hsz := hsz'
              clear BP' BR' U' HO' RK' hsz'
              obtain ⟨W, rfl⟩ : ∃ W0 : World, W0 = wn := ⟨_, rfl⟩
              have p0 := BP.out.at 0 _ rfl
              have p1 := BP.out.at 1 _ rfl
              have p2 := BP.out.at 2 _ rfl
              have p3 := BP.out.at 3 _ rfl
              have p4 := BP.out.at 4 _ rfl
              have p5 := BP.out.at 5 _ rfl
              have p6 := BP.out.at 6 _ rfl
              go_wp2_with fail
              refine (same29 A2 _ [⟨cd, true, T, 0⟩, ⟨cd, false, T, dur⟩] _ c2x _ rfl W (RK.out.more hsz) (Owns.rows HO.out rfl (fun _ => rfl)) (by simp)).mono ?_
              rintro e w3 ⟨rfl, hb3⟩
              replace U := Lib.hid (Bel.later U.out hb3)
              replace BR := Lib.hid (BR.out.later hb3)
              clear hb3 p0 p1 p2 p3 p4 p5 p6
              go_wp2_with fail
              go_roundg (gk - 1)
              case measure => omega
              case rel => exact ⟨k + 1, i, dur, true, true, T, cd, dur, true, by omega, by omega, by go_num, rfl, rfl, rfl, INV, BR, U⟩
          · simp only [Ev.Rcv.mk.injEq] at hR
            obtain ⟨h0, h1, h2, h3, h4⟩ := hR
            subst h0 h3 h4
            subst hla
            have HX1 := Lib.hid h1
            have HX2 := Lib.hid h2
            have HEX := Lib.hid hex
            have HALL : Hid (∀ p ∈ PL, p.key = (i0 : Int) → p.time = x1) := Lib.hid (fun p hp hk => by
              obtain ⟨i', _, h5, h6, _⟩ := HG.out p hp
              have : i' = i0 := by omega
              subst this
              rw [h6, h1])
            have HLi0 : Hid (w1.cell? ⟨lb, loff + i0 * 3, none⟩ = some (.int .u8 x2)) := Lib.hid (by
              obtain ⟨_, _, e, _, gg, _⟩ := rows3 HA.out hi0l
              injection e with e
              injection e with ea eb
              subst ea eb
              rw [gg, h2])
            have hj0 : (0 : Int) ≤ (i0 : Int) := by omega
            have hj1 : (i0 : Int) < (l.length : Int) := by omega
            have hii0 : (0 : Int) ≤ (i : Int) := by omega
            have hii1 : (i : Int) < (l.length : Int) := by omega
            clear h1 h2 hex
            rcases Nat.lt_trichotomy i0 i with hio | hio | hio
            · have hup := TT_up t l i0 i hio (by omega)
              rw [← HTT.out, ← HX1.out] at hup
              have HUP := Lib.hid hup
              clear hup
              cases x4
              · cases fin
                · have kh := Lib.hid fun W => heard_any true x1 x2 x3 false T cd false vol dur T0 T1 hid0 hid1 hl0 hl1 true T cd dur false [⟨x2, false, x1, x3⟩, ⟨cd, true, T, 0⟩] (by rw [Ev.hear_pre x1 x2 x3 T cd false vol dur HUP.out.1 HUP.out.2]; rfl) W
                  have INV : Hid (Inv t l PL (i) (dur) false ⟨true, T, cd, dur, false⟩) := Lib.hid (.inr ⟨i, hil, rfl, hmemk.out, by rw [← HTT.out, ← HCD.out], hid0, hid1⟩)
                  have hm : max 0 dur = dur := by omega
                  have hlt1 : (i0 : Int) < (i : Int) := by omega
                  clear HI
                  have hrp : w1.heap.size < wr.heap.size := BR.out.lt
                  have hrn1 : wr.heap.size ≠ w1.heap.size := by omega
                  have hrn2 : w1.heap.size ≠ wr.heap.size := by omega
                  have f0 := BR.out.at 0 _ rfl
                  have f1 := BR.out.at 1 _ rfl
                  have f2 := BR.out.at 2 _ rfl
                  have f3 := BR.out.at 3 _ rfl
                  have f4 := BR.out.at 4 _ rfl
                  go_wp2_with fail
                  refine (kh.out _).mono ?_
                  rintro e w2 ⟨A2, c2x, rfl, hKS, hb2⟩
                  have hsb := hb2.size
                  rw [size_alloc1] at hsb
                  have hp2 : wr.heap.size < w2.heap.size := by omega
                  have hr2 : w1.heap.size < w2.heap.size := by have := BR.out.lt; omega
                  have h12 : w1.heap.size ≤ w2.heap.size := by omega
                  have hlb2 : lb < w2.heap.size := by omega
                  have BP := Lib.hid ((Blk.new wr 65 #[.int .i64 (i : Int), .int .u32 T, .bool mk, .int .u8 cd, .bool false, .int .u8 vol, .int .u16 dur]).later hb2)
                  replace BR := Lib.hid ((BR.out.push _).later hb2)
                  replace U := Lib.hid (Bel.later (U.out.push _) hb2)
                  have RN := Lib.hid hKS
                  clear hb2 hKS hsb f0 f1 f2 f3 f4 c0 c1' c2 c3 c4 c5 c6 e0 g0
                  have z0 := BR.out.frozen
                  have f0 := BR.out.at 0 _ rfl
                  have f1 := BR.out.at 1 _ rfl
                  have f2 := BR.out.at 2 _ rfl
                  have f3 := BR.out.at 3 _ rfl
                  have f4 := BR.out.at 4 _ rfl
                  have p0 := BP.out.at 0 _ rfl
                  have p1 := BP.out.at 1 _ rfl
                  have p2 := BP.out.at 2 _ rfl
                  have p3 := BP.out.at 3 _ rfl
                  have p4 := BP.out.at 4 _ rfl
                  have p5 := BP.out.at 5 _ rfl
                  have p6 := BP.out.at 6 _ rfl
                  go_wp2_with fail
                  clear z0 f0 f1 f2 f3 f4 p0 p1 p2 p3 p4 p5 p6
                  obtain ⟨W, hW⟩ : ∃ W, W = (setRow w1.heap.size w2 0 [.bool true, .int .u32 T, .int .u8 cd, .int .i64 (dur), .bool false]).alloc (.cells #[.bool true, .int .u32 T, .int .u8 cd, .int .i64 (dur), .bool false] 24) := ⟨_, rfl⟩
                  replace BP : Hid (Blk W wr.heap.size _ _) := Lib.hid (by rw [hW]; exact (Blk.farRow (by omega) [.bool true, .int .u32 T, .int .u8 cd, .int .i64 (dur), .bool false] w2 0 BP.out).push _)
                  replace BR : Hid (Blk W w1.heap.size _ #[.bool true, .int .u32 T, .int .u8 cd, .int .i64 (dur), .bool false]) := Lib.hid (by rw [hW]; exact (BR.out.setRow [.bool true, .int .u32 T, .int .u8 cd, .int .i64 (dur), .bool false] rfl).push _)
                  replace U : Hid (Bel w1 W) := Lib.hid (by rw [hW]; exact Bel.push (below_setRow (Nat.le_refl _) [.bool true, .int .u32 T, .int .u8 cd, .int .i64 (dur), .bool false] w2 0 U.out) _)
                  have RK : Hid (RowsAt W w2.heap.size 4 Ev.Key.row A2 [⟨x2, false, x1, x3⟩, ⟨cd, true, T, 0⟩]) := Lib.hid (by rw [hW]; exact rows_start RN.out (by rw [size_alloc1]; omega) [.bool true, .int .u32 T, .int .u8 cd, .int .i64 (dur), .bool false] _)
                  have hsz : w2.heap.size ≤ W.heap.size := by rw [hW, size_alloc1, setRow_size]; omega
                  have HO : Hid (Owns W w2.heap.size 70 4 none 0 0 (List.flatMap Ev.Key.row [])) := Lib.hid Owns.nil
                  simp only [setRow] at hW
                  rw [← hW]
                  clear hW RN
                  have g0 := (U.out.cell (p := ⟨lb, loff + i0 * 3, none⟩) hlB).trans HLi0.out
                  have p0 := BP.out.at 0 _ rfl
                  have p1 := BP.out.at 1 _ rfl
                  have p2 := BP.out.at 2 _ rfl
                  have p3 := BP.out.at 3 _ rfl
                  have p4 := BP.out.at 4 _ rfl
                  have p5 := BP.out.at 5 _ rfl
                  have p6 := BP.out.at 6 _ rfl
                  have hU : Below w2.heap.size W W := Below.refl _ _
                  have HPW := Lib.hid (HP.out.later U.out)
                  go_wp2_with fail
                  try simp +zetaDelta only [Act.put, List.setIfInBounds_toArray, List.set_cons_succ, List.set_cons_zero]
                  go_region_held_law (fun w' => Below w2.heap.size W w' ∧ w'.cell? ⟨lb, loff + i0 * 3, none⟩ = some (.int .u8 x2) ∧ w'.cell? ⟨wr.heap.size, 0, none⟩ = some (.int .i64 (i : Int)) ∧ w'.cell? ⟨wr.heap.size, 1, none⟩ = some (.int .u32 T) ∧ w'.cell? ⟨wr.heap.size, 2, none⟩ = some (.bool mk) ∧ w'.cell? ⟨wr.heap.size, 3, none⟩ = some (.int .u8 cd) ∧ w'.cell? ⟨wr.heap.size, 4, none⟩ = some (.bool false) ∧ w'.cell? ⟨wr.heap.size, 5, none⟩ = some (.int .u8 vol) ∧ w'.cell? ⟨wr.heap.size, 6, none⟩ = some (.int .u16 dur))
                    (first | (with_reducible assumption) | ((try go_split_ands); refine and_dep ?_ (fun hbX => ⟨cell_keep hbX hlb2 g0, cell_keep hbX hp2 p0, cell_keep hbX hp2 p1, cell_keep hbX hp2 p2, cell_keep hbX hp2 p3, cell_keep hbX hp2 p4, cell_keep hbX hp2 p5, cell_keep hbX hp2 p6⟩); (with_reducible repeat first | assumption | refine Below.drew ?_ | refine below_keep_alloc ?_ hsz _)))
                    (first
                      | ((refine step_append_one 86 (by rfl) (by rfl) _ _ 26 (by rfl) w2.heap.size 70 4 16 _ Try.underlying26 info_key rfl (by decide) _ 0 _ _ (by rfl) (Owns.drew (Owns.alloc HO.out _)) W.heap.size [.int .u8 x2, .bool false, .int .u32 x1, .int .i64 (x3)] rfl (by simp [Value.oneCell']) (by rfl) ((Blk.new W _ _).drew) (by unfold maxLen; omega) (by omega) (by simp; omega) ?_); intro An cn wn hown hgr; have hbn : Below w2.heap.size W wn := (Below.drew (below_keep_alloc hU hsz _)).grown hgr (by simp; omega) (own_ge HO.out (Nat.le_refl _)))
                      | (go_at_call 27; refine (start_any W.drew W.heap.size _ PL _ (i0 : Int) x1 (RowsAt.drew HPW.out) hn2 HEX.out HALL.out).mono ?_; rintro e w' ⟨rfl, rfl⟩))
                  have BP' := Lib.hid (((BP.out.push _).drew).grown hgr (own_ne HO.out hp2))
                  have BR' := Lib.hid (((BR.out.push _).drew).grown hgr (own_ne HO.out hr2))
                  have U' : Hid (Bel w1 wn) := Lib.hid (((U.out.push _).drew).grown hgr (Nat.le_trans U.out.size (by simp)) (own_ge HO.out h12))
                  have HO' := Lib.hid (own_key (K := []) (p := ⟨x2, false, x1, x3⟩) (m := 1) hown rfl)
                  have RK' := Lib.hid (RK.out.keep (fun p hp => hbn.cell hp))
                  have hsz' : w2.heap.size ≤ wn.heap.size := Nat.le_trans hsz hbn.size
                  clear HPW hsz BP BR U HO RK g0 p0 p1 p2 p3 p4 p5 p6 hU hown hgr hbn
                  have BP := BP'
                  have BR := BR'
                  have U := U'
                  have HO := HO'
                  have RK := RK'
                  have hsz := hsz'
                  clear BP' BR' U' HO' RK' hsz'
                  obtain ⟨W, rfl⟩ : ∃ W0 : World, W0 = wn := ⟨_, rfl⟩
                  have g0 := (U.out.cell (p := ⟨lb, loff + i * 3, none⟩) hlB).trans HLi.out
                  have p0 := BP.out.at 0 _ rfl
                  have p1 := BP.out.at 1 _ rfl
                  have p2 := BP.out.at 2 _ rfl
                  have p3 := BP.out.at 3 _ rfl
                  have p4 := BP.out.at 4 _ rfl
                  have p5 := BP.out.at 5 _ rfl
                  have p6 := BP.out.at 6 _ rfl
                  have hU : Below w2.heap.size W W := Below.refl _ _
                  have HPW := Lib.hid (HP.out.later U.out)
                  go_wp2_with fail
                  try simp +zetaDelta only [Act.put, List.setIfInBounds_toArray, List.set_cons_succ, List.set_cons_zero]
                  go_region_held_law (fun w' => Below w2.heap.size W w' ∧ w'.cell? ⟨lb, loff + i * 3, none⟩ = some (.int .u8 cd) ∧ w'.cell? ⟨wr.heap.size, 0, none⟩ = some (.int .i64 (i : Int)) ∧ w'.cell? ⟨wr.heap.size, 1, none⟩ = some (.int .u32 T) ∧ w'.cell? ⟨wr.heap.size, 2, none⟩ = some (.bool mk) ∧ w'.cell? ⟨wr.heap.size, 3, none⟩ = some (.int .u8 cd) ∧ w'.cell? ⟨wr.heap.size, 4, none⟩ = some (.bool false) ∧ w'.cell? ⟨wr.heap.size, 5, none⟩ = some (.int .u8 vol) ∧ w'.cell? ⟨wr.heap.size, 6, none⟩ = some (.int .u16 dur))
                    (first | (with_reducible assumption) | ((try go_split_ands); refine and_dep ?_ (fun hbX => ⟨cell_keep hbX hlb2 g0, cell_keep hbX hp2 p0, cell_keep hbX hp2 p1, cell_keep hbX hp2 p2, cell_keep hbX hp2 p3, cell_keep hbX hp2 p4, cell_keep hbX hp2 p5, cell_keep hbX hp2 p6⟩); (with_reducible repeat first | assumption | refine Below.drew ?_ | refine below_keep_alloc ?_ hsz _)))
                    (first
                      | ((refine step_append_one 99 (by rfl) (by rfl) _ _ 26 (by rfl) w2.heap.size 70 4 16 _ Try.underlying26 info_key rfl (by decide) _ 1 _ _ (by rfl) (Owns.drew (Owns.alloc HO.out _)) W.heap.size [.int .u8 cd, .bool true, .int .u32 T, .int .i64 (0)] rfl (by simp [Value.oneCell']) (by rfl) ((Blk.new W _ _).drew) (by unfold maxLen; omega) (by omega) (by simp; omega) ?_); intro An cn wn hown hgr; have hbn : Below w2.heap.size W wn := (Below.drew (below_keep_alloc hU hsz _)).grown hgr (by simp; omega) (own_ge HO.out (Nat.le_refl _)))
                      )
                  have BP' := Lib.hid (((BP.out.push _).drew).grown hgr (own_ne HO.out hp2))
                  have BR' := Lib.hid (((BR.out.push _).drew).grown hgr (own_ne HO.out hr2))
                  have U' : Hid (Bel w1 wn) := Lib.hid (((U.out.push _).drew).grown hgr (Nat.le_trans U.out.size (by simp)) (own_ge HO.out h12))
                  have HO' := Lib.hid (own_key (K := [⟨x2, false, x1, x3⟩]) (p := ⟨cd, true, T, 0⟩) (m := 2) hown rfl)
                  have RK' := Lib.hid (RK.out.keep (fun p hp => hbn.cell hp))
                  have hsz' : w2.heap.size ≤ wn.heap.size := Nat.le_trans hsz hbn.size
                  clear HPW hsz BP BR U HO RK g0 p0 p1 p2 p3 p4 p5 p6 hU hown hgr hbn
                  have BP := BP'
                  have BR := BR'
                  have U := U'
                  have HO := HO'
                  have RK := RK'
                  have hsz := hsz'
                  clear BP' BR' U' HO' RK' hsz'
                  obtain ⟨W, rfl⟩ : ∃ W0 : World, W0 = wn := ⟨_, rfl⟩
                  have p0 := BP.out.at 0 _ rfl
                  have p1 := BP.out.at 1 _ rfl
                  have p2 := BP.out.at 2 _ rfl
                  have p3 := BP.out.at 3 _ rfl
                  have p4 := BP.out.at 4 _ rfl
                  have p5 := BP.out.at 5 _ rfl
                  have p6 := BP.out.at 6 _ rfl
                  go_wp2_with fail
                  refine (same29 A2 _ [⟨x2, false, x1, x3⟩, ⟨cd, true, T, 0⟩] _ c2x _ rfl W (RK.out.more hsz) (Owns.rows HO.out rfl (fun _ => rfl)) (by simp)).mono ?_
                  rintro e w3 ⟨rfl, hb3⟩
                  replace U := Lib.hid (Bel.later U.out hb3)
                  replace BR := Lib.hid (BR.out.later hb3)
                  clear hb3 p0 p1 p2 p3 p4 p5 p6
                  go_wp2_with fail
                  go_roundg (gk - 1)
                  case measure => omega
                  case rel => exact ⟨k + 1, i, dur, false, true, T, cd, dur, false, by omega, by omega, by go_num, rfl, rfl, rfl, INV, BR, U⟩
                · have kh := Lib.hid fun W => heard_any true x1 x2 x3 false T cd true vol dur T0 T1 hid0 hid1 hl0 hl1 true T cd dur true [⟨x2, false, x1, x3⟩, ⟨cd, true, T, 0⟩, ⟨cd, false, T, dur⟩] (by rw [Ev.hear_pre x1 x2 x3 T cd true vol dur HUP.out.1 HUP.out.2]; rfl) W
                  have INV : Hid (Inv t l PL (i) (dur) true ⟨true, T, cd, dur, true⟩) := Lib.hid (.inr ⟨i, hil, rfl, hmemk.out, by rw [← HTT.out, ← HCD.out], hid0, hid1⟩)
                  have hm : max 0 dur = dur := by omega
                  have hlt1 : (i0 : Int) < (i : Int) := by omega
                  clear HI
                  have hrp : w1.heap.size < wr.heap.size := BR.out.lt
                  have hrn1 : wr.heap.size ≠ w1.heap.size := by omega
                  have hrn2 : w1.heap.size ≠ wr.heap.size := by omega
                  have f0 := BR.out.at 0 _ rfl
                  have f1 := BR.out.at 1 _ rfl
                  have f2 := BR.out.at 2 _ rfl
                  have f3 := BR.out.at 3 _ rfl
                  have f4 := BR.out.at 4 _ rfl
                  go_wp2_with fail
                  refine (kh.out _).mono ?_
                  rintro e w2 ⟨A2, c2x, rfl, hKS, hb2⟩
                  have hsb := hb2.size
                  rw [size_alloc1] at hsb
                  have hp2 : wr.heap.size < w2.heap.size := by omega
                  have hr2 : w1.heap.size < w2.heap.size := by have := BR.out.lt; omega
                  have h12 : w1.heap.size ≤ w2.heap.size := by omega
                  have hlb2 : lb < w2.heap.size := by omega
                  have BP := Lib.hid ((Blk.new wr 65 #[.int .i64 (i : Int), .int .u32 T, .bool mk, .int .u8 cd, .bool true, .int .u8 vol, .int .u16 dur]).later hb2)
                  replace BR := Lib.hid ((BR.out.push _).later hb2)
                  replace U := Lib.hid (Bel.later (U.out.push _) hb2)
                  have RN := Lib.hid hKS
                  clear hb2 hKS hsb f0 f1 f2 f3 f4 c0 c1' c2 c3 c4 c5 c6 e0 g0
                  have z0 := BR.out.frozen
                  have f0 := BR.out.at 0 _ rfl
                  have f1 := BR.out.at 1 _ rfl
                  have f2 := BR.out.at 2 _ rfl
                  have f3 := BR.out.at 3 _ rfl
                  have f4 := BR.out.at 4 _ rfl
                  have p0 := BP.out.at 0 _ rfl
                  have p1 := BP.out.at 1 _ rfl
                  have p2 := BP.out.at 2 _ rfl
                  have p3 := BP.out.at 3 _ rfl
                  have p4 := BP.out.at 4 _ rfl
                  have p5 := BP.out.at 5 _ rfl
                  have p6 := BP.out.at 6 _ rfl
                  go_wp2_with fail
                  clear z0 f0 f1 f2 f3 f4 p0 p1 p2 p3 p4 p5 p6
                  obtain ⟨W, hW⟩ : ∃ W, W = (setRow w1.heap.size w2 0 [.bool true, .int .u32 T, .int .u8 cd, .int .i64 (dur), .bool true]).alloc (.cells #[.bool true, .int .u32 T, .int .u8 cd, .int .i64 (dur), .bool true] 24) := ⟨_, rfl⟩
                  replace BP : Hid (Blk W wr.heap.size _ _) := Lib.hid (by rw [hW]; exact (Blk.farRow (by omega) [.bool true, .int .u32 T, .int .u8 cd, .int .i64 (dur), .bool true] w2 0 BP.out).push _)
                  replace BR : Hid (Blk W w1.heap.size _ #[.bool true, .int .u32 T, .int .u8 cd, .int .i64 (dur), .bool true]) := Lib.hid (by rw [hW]; exact (BR.out.setRow [.bool true, .int .u32 T, .int .u8 cd, .int .i64 (dur), .bool true] rfl).push _)
                  replace U : Hid (Bel w1 W) := Lib.hid (by rw [hW]; exact Bel.push (below_setRow (Nat.le_refl _) [.bool true, .int .u32 T, .int .u8 cd, .int .i64 (dur), .bool true] w2 0 U.out) _)
                  have RK : Hid (RowsAt W w2.heap.size 4 Ev.Key.row A2 [⟨x2, false, x1, x3⟩, ⟨cd, true, T, 0⟩, ⟨cd, false, T, dur⟩]) := Lib.hid (by rw [hW]; exact rows_start RN.out (by rw [size_alloc1]; omega) [.bool true, .int .u32 T, .int .u8 cd, .int .i64 (dur), .bool true] _)
                  have hsz : w2.heap.size ≤ W.heap.size := by rw [hW, size_alloc1, setRow_size]; omega
                  have HO : Hid (Owns W w2.heap.size 70 4 none 0 0 (List.flatMap Ev.Key.row [])) := Lib.hid Owns.nil
                  simp only [setRow] at hW
                  rw [← hW]
                  clear hW RN
                  have g0 := (U.out.cell (p := ⟨lb, loff + i0 * 3, none⟩) hlB).trans HLi0.out
                  have p0 := BP.out.at 0 _ rfl
                  have p1 := BP.out.at 1 _ rfl
                  have p2 := BP.out.at 2 _ rfl
                  have p3 := BP.out.at 3 _ rfl
                  have p4 := BP.out.at 4 _ rfl
                  have p5 := BP.out.at 5 _ rfl
                  have p6 := BP.out.at 6 _ rfl
                  have hU : Below w2.heap.size W W := Below.refl _ _
                  have HPW := Lib.hid (HP.out.later U.out)
                  go_wp2_with fail
                  try simp +zetaDelta only [Act.put, List.setIfInBounds_toArray, List.set_cons_succ, List.set_cons_zero]
                  go_region_held_law (fun w' => Below w2.heap.size W w' ∧ w'.cell? ⟨lb, loff + i0 * 3, none⟩ = some (.int .u8 x2) ∧ w'.cell? ⟨wr.heap.size, 0, none⟩ = some (.int .i64 (i : Int)) ∧ w'.cell? ⟨wr.heap.size, 1, none⟩ = some (.int .u32 T) ∧ w'.cell? ⟨wr.heap.size, 2, none⟩ = some (.bool mk) ∧ w'.cell? ⟨wr.heap.size, 3, none⟩ = some (.int .u8 cd) ∧ w'.cell? ⟨wr.heap.size, 4, none⟩ = some (.bool true) ∧ w'.cell? ⟨wr.heap.size, 5, none⟩ = some (.int .u8 vol) ∧ w'.cell? ⟨wr.heap.size, 6, none⟩ = some (.int .u16 dur))
                    (first | (with_reducible assumption) | ((try go_split_ands); refine and_dep ?_ (fun hbX => ⟨cell_keep hbX hlb2 g0, cell_keep hbX hp2 p0, cell_keep hbX hp2 p1, cell_keep hbX hp2 p2, cell_keep hbX hp2 p3, cell_keep hbX hp2 p4, cell_keep hbX hp2 p5, cell_keep hbX hp2 p6⟩); (with_reducible repeat first | assumption | refine Below.drew ?_ | refine below_keep_alloc ?_ hsz _)))
                    (first
                      | ((refine step_append_one 86 (by rfl) (by rfl) _ _ 26 (by rfl) w2.heap.size 70 4 16 _ Try.underlying26 info_key rfl (by decide) _ 0 _ _ (by rfl) (Owns.drew (Owns.alloc HO.out _)) W.heap.size [.int .u8 x2, .bool false, .int .u32 x1, .int .i64 (x3)] rfl (by simp [Value.oneCell']) (by rfl) ((Blk.new W _ _).drew) (by unfold maxLen; omega) (by omega) (by simp; omega) ?_); intro An cn wn hown hgr; have hbn : Below w2.heap.size W wn := (Below.drew (below_keep_alloc hU hsz _)).grown hgr (by simp; omega) (own_ge HO.out (Nat.le_refl _)))
                      | (go_at_call 27; refine (start_any W.drew W.heap.size _ PL _ (i0 : Int) x1 (RowsAt.drew HPW.out) hn2 HEX.out HALL.out).mono ?_; rintro e w' ⟨rfl, rfl⟩))
                  have BP' := Lib.hid (((BP.out.push _).drew).grown hgr (own_ne HO.out hp2))
                  have BR' := Lib.hid (((BR.out.push _).drew).grown hgr (own_ne HO.out hr2))
                  have U' : Hid (Bel w1 wn) := Lib.hid (((U.out.push _).drew).grown hgr (Nat.le_trans U.out.size (by simp)) (own_ge HO.out h12))
                  have HO' := Lib.hid (own_key (K := []) (p := ⟨x2, false, x1, x3⟩) (m := 1) hown rfl)
                  have RK' := Lib.hid (RK.out.keep (fun p hp => hbn.cell hp))
                  have hsz' : w2.heap.size ≤ wn.heap.size := Nat.le_trans hsz hbn.size
                  clear HPW hsz BP BR U HO RK g0 p0 p1 p2 p3 p4 p5 p6 hU hown hgr hbn
                  have BP := BP'
                  have BR := BR'
                  have U := U'
                  have HO := HO'
                  have RK := RK'
                  have hsz := hsz'
                  clear BP' BR' U' HO' RK' hsz'
                  obtain ⟨W, rfl⟩ : ∃ W0 : World, W0 = wn := ⟨_, rfl⟩
                  have g0 := (U.out.cell (p := ⟨lb, loff + i * 3, none⟩) hlB).trans HLi.out
                  have p0 := BP.out.at 0 _ rfl
                  have p1 := BP.out.at 1 _ rfl
                  have p2 := BP.out.at 2 _ rfl
                  have p3 := BP.out.at 3 _ rfl
                  have p4 := BP.out.at 4 _ rfl
                  have p5 := BP.out.at 5 _ rfl
                  have p6 := BP.out.at 6 _ rfl
                  have hU : Below w2.heap.size W W := Below.refl _ _
                  have HPW := Lib.hid (HP.out.later U.out)
                  go_wp2_with fail
                  try simp +zetaDelta only [Act.put, List.setIfInBounds_toArray, List.set_cons_succ, List.set_cons_zero]
                  go_region_held_law (fun w' => Below w2.heap.size W w' ∧ w'.cell? ⟨lb, loff + i * 3, none⟩ = some (.int .u8 cd) ∧ w'.cell? ⟨wr.heap.size, 0, none⟩ = some (.int .i64 (i : Int)) ∧ w'.cell? ⟨wr.heap.size, 1, none⟩ = some (.int .u32 T) ∧ w'.cell? ⟨wr.heap.size, 2, none⟩ = some (.bool mk) ∧ w'.cell? ⟨wr.heap.size, 3, none⟩ = some (.int .u8 cd) ∧ w'.cell? ⟨wr.heap.size, 4, none⟩ = some (.bool true) ∧ w'.cell? ⟨wr.heap.size, 5, none⟩ = some (.int .u8 vol) ∧ w'.cell? ⟨wr.heap.size, 6, none⟩ = some (.int .u16 dur))
                    (first | (with_reducible assumption) | ((try go_split_ands); refine and_dep ?_ (fun hbX => ⟨cell_keep hbX hlb2 g0, cell_keep hbX hp2 p0, cell_keep hbX hp2 p1, cell_keep hbX hp2 p2, cell_keep hbX hp2 p3, cell_keep hbX hp2 p4, cell_keep hbX hp2 p5, cell_keep hbX hp2 p6⟩); (with_reducible repeat first | assumption | refine Below.drew ?_ | refine below_keep_alloc ?_ hsz _)))
                    (first
                      | ((refine step_append_one 99 (by rfl) (by rfl) _ _ 26 (by rfl) w2.heap.size 70 4 16 _ Try.underlying26 info_key rfl (by decide) _ 1 _ _ (by rfl) (Owns.drew (Owns.alloc HO.out _)) W.heap.size [.int .u8 cd, .bool true, .int .u32 T, .int .i64 (0)] rfl (by simp [Value.oneCell']) (by rfl) ((Blk.new W _ _).drew) (by unfold maxLen; omega) (by omega) (by simp; omega) ?_); intro An cn wn hown hgr; have hbn : Below w2.heap.size W wn := (Below.drew (below_keep_alloc hU hsz _)).grown hgr (by simp; omega) (own_ge HO.out (Nat.le_refl _)))
                      )
                  have BP' := Lib.hid (((BP.out.push _).drew).grown hgr (own_ne HO.out hp2))
                  have BR' := Lib.hid (((BR.out.push _).drew).grown hgr (own_ne HO.out hr2))
                  have U' : Hid (Bel w1 wn) := Lib.hid (((U.out.push _).drew).grown hgr (Nat.le_trans U.out.size (by simp)) (own_ge HO.out h12))
                  have HO' := Lib.hid (own_key (K := [⟨x2, false, x1, x3⟩]) (p := ⟨cd, true, T, 0⟩) (m := 2) hown rfl)
                  have RK' := Lib.hid (RK.out.keep (fun p hp => hbn.cell hp))
                  have hsz' : w2.heap.size ≤ wn.heap.size := Nat.le_trans hsz hbn.size
                  clear HPW hsz BP BR U HO RK g0 p0 p1 p2 p3 p4 p5 p6 hU hown hgr hbn
                  have BP := BP'
                  have BR := BR'
                  have U := U'
                  have HO := HO'
                  have RK := RK'
                  have hsz := hsz'
                  clear BP' BR' U' HO' RK' hsz'
                  obtain ⟨W, rfl⟩ : ∃ W0 : World, W0 = wn := ⟨_, rfl⟩
                  have g0 := (U.out.cell (p := ⟨lb, loff + i * 3, none⟩) hlB).trans HLi.out
                  have p0 := BP.out.at 0 _ rfl
                  have p1 := BP.out.at 1 _ rfl
                  have p2 := BP.out.at 2 _ rfl
                  have p3 := BP.out.at 3 _ rfl
                  have p4 := BP.out.at 4 _ rfl
                  have p5 := BP.out.at 5 _ rfl
                  have p6 := BP.out.at 6 _ rfl
                  have hU : Below w2.heap.size W W := Below.refl _ _
                  have HPW := Lib.hid (HP.out.later U.out)
                  go_wp2_with fail
                  try simp +zetaDelta only [Act.put, List.setIfInBounds_toArray, List.set_cons_succ, List.set_cons_zero]
                  go_region_held_law (fun w' => Below w2.heap.size W w' ∧ w'.cell? ⟨lb, loff + i * 3, none⟩ = some (.int .u8 cd) ∧ w'.cell? ⟨wr.heap.size, 0, none⟩ = some (.int .i64 (i : Int)) ∧ w'.cell? ⟨wr.heap.size, 1, none⟩ = some (.int .u32 T) ∧ w'.cell? ⟨wr.heap.size, 2, none⟩ = some (.bool mk) ∧ w'.cell? ⟨wr.heap.size, 3, none⟩ = some (.int .u8 cd) ∧ w'.cell? ⟨wr.heap.size, 4, none⟩ = some (.bool true) ∧ w'.cell? ⟨wr.heap.size, 5, none⟩ = some (.int .u8 vol) ∧ w'.cell? ⟨wr.heap.size, 6, none⟩ = some (.int .u16 dur))
                    (first | (with_reducible assumption) | ((try go_split_ands); refine and_dep ?_ (fun hbX => ⟨cell_keep hbX hlb2 g0, cell_keep hbX hp2 p0, cell_keep hbX hp2 p1, cell_keep hbX hp2 p2, cell_keep hbX hp2 p3, cell_keep hbX hp2 p4, cell_keep hbX hp2 p5, cell_keep hbX hp2 p6⟩); (with_reducible repeat first | assumption | refine Below.drew ?_ | refine below_keep_alloc ?_ hsz _)))
                    (first
                      | ((refine step_append_one 133 (by rfl) (by rfl) _ _ 26 (by rfl) w2.heap.size 70 4 16 _ Try.underlying26 info_key rfl (by decide) _ 2 _ _ (by rfl) (Owns.drew (Owns.alloc HO.out _)) W.heap.size [.int .u8 cd, .bool false, .int .u32 T, .int .i64 (dur)] rfl (by simp [Value.oneCell']) (by rfl) ((Blk.new W _ _).drew) (by unfold maxLen; omega) (by omega) (by simp; omega) ?_); intro An cn wn hown hgr; have hbn : Below w2.heap.size W wn := (Below.drew (below_keep_alloc hU hsz _)).grown hgr (by simp; omega) (own_ge HO.out (Nat.le_refl _)))
                      )
                  have BP' := Lib.hid (((BP.out.push _).drew).grown hgr (own_ne HO.out hp2))
                  have BR' := Lib.hid (((BR.out.push _).drew).grown hgr (own_ne HO.out hr2))
                  have U' : Hid (Bel w1 wn) := Lib.hid (((U.out.push _).drew).grown hgr (Nat.le_trans U.out.size (by simp)) (own_ge HO.out h12))
                  have HO' := Lib.hid (own_key (K := [⟨x2, false, x1, x3⟩, ⟨cd, true, T, 0⟩]) (p := ⟨cd, false, T, dur⟩) (m := 3) hown rfl)
                  have RK' := Lib.hid (RK.out.keep (fun p hp => hbn.cell hp))
                  have hsz' : w2.heap.size ≤ wn.heap.size := Nat.le_trans hsz hbn.size
                  clear HPW hsz BP BR U HO RK g0 p0 p1 p2 p3 p4 p5 p6 hU hown hgr hbn
                  have BP := BP'
                  have BR := BR'
                  have U := U'
                  have HO := HO'
                  have RK := RK'
                  have hsz := hsz'
                  clear BP' BR' U' HO' RK' hsz'
                  obtain ⟨W, rfl⟩ : ∃ W0 : World, W0 = wn := ⟨_, rfl⟩
                  have p0 := BP.out.at 0 _ rfl
                  have p1 := BP.out.at 1 _ rfl
                  have p2 := BP.out.at 2 _ rfl
                  have p3 := BP.out.at 3 _ rfl
                  have p4 := BP.out.at 4 _ rfl
                  have p5 := BP.out.at 5 _ rfl
                  have p6 := BP.out.at 6 _ rfl
                  go_wp2_with fail
                  refine (same29 A2 _ [⟨x2, false, x1, x3⟩, ⟨cd, true, T, 0⟩, ⟨cd, false, T, dur⟩] _ c2x _ rfl W (RK.out.more hsz) (Owns.rows HO.out rfl (fun _ => rfl)) (by simp)).mono ?_
                  rintro e w3 ⟨rfl, hb3⟩
                  replace U := Lib.hid (Bel.later U.out hb3)
                  replace BR := Lib.hid (BR.out.later hb3)
                  clear hb3 p0 p1 p2 p3 p4 p5 p6
                  go_wp2_with fail
                  go_roundg (gk - 1)
                  case measure => omega
                  case rel => exact ⟨k + 1, i, dur, true, true, T, cd, dur, true, by omega, by omega, by go_num, rfl, rfl, rfl, INV, BR, U⟩
              · cases fin
                · have kh := Lib.hid fun W => heard_any true x1 x2 x3 true T cd false vol dur T0 T1 hid0 hid1 hl0 hl1 true T cd dur false [⟨cd, true, T, 0⟩] (by rw [Ev.hear_on x1 x2 x3 T cd false vol dur HUP.out.1 HUP.out.2]; rfl) W
                  have INV : Hid (Inv t l PL (i) (dur) false ⟨true, T, cd, dur, false⟩) := Lib.hid (.inr ⟨i, hil, rfl, hmemk.out, by rw [← HTT.out, ← HCD.out], hid0, hid1⟩)
                  have hm : max 0 dur = dur := by omega
                  have hlt1 : (i0 : Int) < (i : Int) := by omega
                  clear HI
                  have hrp : w1.heap.size < wr.heap.size := BR.out.lt
                  have hrn1 : wr.heap.size ≠ w1.heap.size := by omega
                  have hrn2 : w1.heap.size ≠ wr.heap.size := by omega
                  have f0 := BR.out.at 0 _ rfl
                  have f1 := BR.out.at 1 _ rfl
                  have f2 := BR.out.at 2 _ rfl
                  have f3 := BR.out.at 3 _ rfl
                  have f4 := BR.out.at 4 _ rfl
                  go_wp2_with fail
                  refine (kh.out _).mono ?_
                  rintro e w2 ⟨A2, c2x, rfl, hKS, hb2⟩
                  have hsb := hb2.size
                  rw [size_alloc1] at hsb
                  have hp2 : wr.heap.size < w2.heap.size := by omega
                  have hr2 : w1.heap.size < w2.heap.size := by have := BR.out.lt; omega
                  have h12 : w1.heap.size ≤ w2.heap.size := by omega
                  have hlb2 : lb < w2.heap.size := by omega
                  have BP := Lib.hid ((Blk.new wr 65 #[.int .i64 (i : Int), .int .u32 T, .bool mk, .int .u8 cd, .bool false, .int .u8 vol, .int .u16 dur]).later hb2)
                  replace BR := Lib.hid ((BR.out.push _).later hb2)
                  replace U := Lib.hid (Bel.later (U.out.push _) hb2)
                  have RN := Lib.hid hKS
                  clear hb2 hKS hsb f0 f1 f2 f3 f4 c0 c1' c2 c3 c4 c5 c6 e0 g0
                  have z0 := BR.out.frozen
                  have f0 := BR.out.at 0 _ rfl
                  have f1 := BR.out.at 1 _ rfl
                  have f2 := BR.out.at 2 _ rfl
                  have f3 := BR.out.at 3 _ rfl
                  have f4 := BR.out.at 4 _ rfl
                  have p0 := BP.out.at 0 _ rfl
                  have p1 := BP.out.at 1 _ rfl
                  have p2 := BP.out.at 2 _ rfl
                  have p3 := BP.out.at 3 _ rfl
                  have p4 := BP.out.at 4 _ rfl
                  have p5 := BP.out.at 5 _ rfl
                  have p6 := BP.out.at 6 _ rfl
                  go_wp2_with fail
                  clear z0 f0 f1 f2 f3 f4 p0 p1 p2 p3 p4 p5 p6
                  obtain ⟨W, hW⟩ : ∃ W, W = (setRow w1.heap.size w2 0 [.bool true, .int .u32 T, .int .u8 cd, .int .i64 (dur), .bool false]).alloc (.cells #[.bool true, .int .u32 T, .int .u8 cd, .int .i64 (dur), .bool false] 24) := ⟨_, rfl⟩
                  replace BP : Hid (Blk W wr.heap.size _ _) := Lib.hid (by rw [hW]; exact (Blk.farRow (by omega) [.bool true, .int .u32 T, .int .u8 cd, .int .i64 (dur), .bool false] w2 0 BP.out).push _)
                  replace BR : Hid (Blk W w1.heap.size _ #[.bool true, .int .u32 T, .int .u8 cd, .int .i64 (dur), .bool false]) := Lib.hid (by rw [hW]; exact (BR.out.setRow [.bool true, .int .u32 T, .int .u8 cd, .int .i64 (dur), .bool false] rfl).push _)
                  replace U : Hid (Bel w1 W) := Lib.hid (by rw [hW]; exact Bel.push (below_setRow (Nat.le_refl _) [.bool true, .int .u32 T, .int .u8 cd, .int .i64 (dur), .bool false] w2 0 U.out) _)
                  have RK : Hid (RowsAt W w2.heap.size 4 Ev.Key.row A2 [⟨cd, true, T, 0⟩]) := Lib.hid (by rw [hW]; exact rows_start RN.out (by rw [size_alloc1]; omega) [.bool true, .int .u32 T, .int .u8 cd, .int .i64 (dur), .bool false] _)
                  have hsz : w2.heap.size ≤ W.heap.size := by rw [hW, size_alloc1, setRow_size]; omega
                  have HO : Hid (Owns W w2.heap.size 70 4 none 0 0 (List.flatMap Ev.Key.row [])) := Lib.hid Owns.nil
                  simp only [setRow] at hW
                  rw [← hW]
                  clear hW RN
                  have g0 := (U.out.cell (p := ⟨lb, loff + i * 3, none⟩) hlB).trans HLi.out
                  have p0 := BP.out.at 0 _ rfl
                  have p1 := BP.out.at 1 _ rfl
                  have p2 := BP.out.at 2 _ rfl
                  have p3 := BP.out.at 3 _ rfl
                  have p4 := BP.out.at 4 _ rfl
                  have p5 := BP.out.at 5 _ rfl
                  have p6 := BP.out.at 6 _ rfl
                  have hU : Below w2.heap.size W W := Below.refl _ _
                  have HPW := Lib.hid (HP.out.later U.out)
                  go_wp2_with fail
                  try simp +zetaDelta only [Act.put, List.setIfInBounds_toArray, List.set_cons_succ, List.set_cons_zero]
                  go_region_held_law (fun w' => Below w2.heap.size W w' ∧ w'.cell? ⟨lb, loff + i * 3, none⟩ = some (.int .u8 cd) ∧ w'.cell? ⟨wr.heap.size, 0, none⟩ = some (.int .i64 (i : Int)) ∧ w'.cell? ⟨wr.heap.size, 1, none⟩ = some (.int .u32 T) ∧ w'.cell? ⟨wr.heap.size, 2, none⟩ = some (.bool mk) ∧ w'.cell? ⟨wr.heap.size, 3, none⟩ = some (.int .u8 cd) ∧ w'.cell? ⟨wr.heap.size, 4, none⟩ = some (.bool false) ∧ w'.cell? ⟨wr.heap.size, 5, none⟩ = some (.int .u8 vol) ∧ w'.cell? ⟨wr.heap.size, 6, none⟩ = some (.int .u16 dur))
                    (first | (with_reducible assumption) | ((try go_split_ands); refine and_dep ?_ (fun hbX => ⟨cell_keep hbX hlb2 g0, cell_keep hbX hp2 p0, cell_keep hbX hp2 p1, cell_keep hbX hp2 p2, cell_keep hbX hp2 p3, cell_keep hbX hp2 p4, cell_keep hbX hp2 p5, cell_keep hbX hp2 p6⟩); (with_reducible repeat first | assumption | refine Below.drew ?_ | refine below_keep_alloc ?_ hsz _)))
                    (first
                      | ((refine step_append_one 99 (by rfl) (by rfl) _ _ 26 (by rfl) w2.heap.size 70 4 16 _ Try.underlying26 info_key rfl (by decide) _ 0 _ _ (by rfl) (Owns.drew (Owns.alloc HO.out _)) W.heap.size [.int .u8 cd, .bool true, .int .u32 T, .int .i64 (0)] rfl (by simp [Value.oneCell']) (by rfl) ((Blk.new W _ _).drew) (by unfold maxLen; omega) (by omega) (by simp; omega) ?_); intro An cn wn hown hgr; have hbn : Below w2.heap.size W wn := (Below.drew (below_keep_alloc hU hsz _)).grown hgr (by simp; omega) (own_ge HO.out (Nat.le_refl _)))
                      )
                  have BP' := Lib.hid (((BP.out.push _).drew).grown hgr (own_ne HO.out hp2))
                  have BR' := Lib.hid (((BR.out.push _).drew).grown hgr (own_ne HO.out hr2))
                  have U' : Hid (Bel w1 wn) := Lib.hid (((U.out.push _).drew).grown hgr (Nat.le_trans U.out.size (by simp)) (own_ge HO.out h12))
                  have HO' := Lib.hid (own_key (K := []) (p := ⟨cd, true, T, 0⟩) (m := 1) hown rfl)
                  have RK' := Lib.hid (RK.out.keep (fun p hp => hbn.cell hp))
                  have hsz' : w2.heap.size ≤ wn.heap.size := Nat.le_trans hsz hbn.size
                  clear HPW hsz BP BR U HO RK g0 p0 p1 p2 p3 p4 p5 p6 hU hown hgr hbn
                  have BP := BP'
                  have BR := BR'
                  have U := U'
                  have HO := HO'
                  have RK := RK'
                  have hsz := hsz'
                  clear BP' BR' U' HO' RK' hsz'
                  obtain ⟨W, rfl⟩ : ∃ W0 : World, W0 = wn := ⟨_, rfl⟩
                  have p0 := BP.out.at 0 _ rfl
                  have p1 := BP.out.at 1 _ rfl
                  have p2 := BP.out.at 2 _ rfl
                  have p3 := BP.out.at 3 _ rfl
                  have p4 := BP.out.at 4 _ rfl
                  have p5 := BP.out.at 5 _ rfl
                  have p6 := BP.out.at 6 _ rfl
                  go_wp2_with fail
                  refine (same29 A2 _ [⟨cd, true, T, 0⟩] _ c2x _ rfl W (RK.out.more hsz) (Owns.rows HO.out rfl (fun _ => rfl)) (by simp)).mono ?_
                  rintro e w3 ⟨rfl, hb3⟩
                  replace U := Lib.hid (Bel.later U.out hb3)
                  replace BR := Lib.hid (BR.out.later hb3)
                  clear hb3 p0 p1 p2 p3 p4 p5 p6
                  go_wp2_with fail
                  go_roundg (gk - 1)
                  case measure => omega
                  case rel => exact ⟨k + 1, i, dur, false, true, T, cd, dur, false, by omega, by omega, by go_num, rfl, rfl, rfl, INV, BR, U⟩
                · have kh := Lib.hid fun W => heard_any true x1 x2 x3 true T cd true vol dur T0 T1 hid0 hid1 hl0 hl1 true T cd dur true [⟨cd, true, T, 0⟩, ⟨cd, false, T, dur⟩] (by rw [Ev.hear_on x1 x2 x3 T cd true vol dur HUP.out.1 HUP.out.2]; rfl) W
                  have INV : Hid (Inv t l PL (i) (dur) true ⟨true, T, cd, dur, true⟩) := Lib.hid (.inr ⟨i, hil, rfl, hmemk.out, by rw [← HTT.out, ← HCD.out], hid0, hid1⟩)
                  have hm : max 0 dur = dur := by omega
                  have hlt1 : (i0 : Int) < (i : Int) := by omega
                  clear HI
                  have hrp : w1.heap.size < wr.heap.size := BR.out.lt
                  have hrn1 : wr.heap.size ≠ w1.heap.size := by omega
                  have hrn2 : w1.heap.size ≠ wr.heap.size := by omega
                  have f0 := BR.out.at 0 _ rfl
                  have f1 := BR.out.at 1 _ rfl
                  have f2 := BR.out.at 2 _ rfl
                  have f3 := BR.out.at 3 _ rfl
                  have f4 := BR.out.at 4 _ rfl
                  go_wp2_with fail
                  refine (kh.out _).mono ?_
                  rintro e w2 ⟨A2, c2x, rfl, hKS, hb2⟩
                  have hsb := hb2.size
                  rw [size_alloc1] at hsb
                  have hp2 : wr.heap.size < w2.heap.size := by omega
                  have hr2 : w1.heap.size < w2.heap.size := by have := BR.out.lt; omega
                  have h12 : w1.heap.size ≤ w2.heap.size := by omega
                  have hlb2 : lb < w2.heap.size := by omega
                  have BP := Lib.hid ((Blk.new wr 65 #[.int .i64 (i : Int), .int .u32 T, .bool mk, .int .u8 cd, .bool true, .int .u8 vol, .int .u16 dur]).later hb2)
                  replace BR := Lib.hid ((BR.out.push _).later hb2)
                  replace U := Lib.hid (Bel.later (U.out.push _) hb2)
                  have RN := Lib.hid hKS
                  clear hb2 hKS hsb f0 f1 f2 f3 f4 c0 c1' c2 c3 c4 c5 c6 e0 g0
                  have z0 := BR.out.frozen
                  have f0 := BR.out.at 0 _ rfl
                  have f1 := BR.out.at 1 _ rfl
                  have f2 := BR.out.at 2 _ rfl
                  have f3 := BR.out.at 3 _ rfl
                  have f4 := BR.out.at 4 _ rfl
                  have p0 := BP.out.at 0 _ rfl
                  have p1 := BP.out.at 1 _ rfl
                  have p2 := BP.out.at 2 _ rfl
                  have p3 := BP.out.at 3 _ rfl
                  have p4 := BP.out.at 4 _ rfl
                  have p5 := BP.out.at 5 _ rfl
                  have p6 := BP.out.at 6 _ rfl
                  go_wp2_with fail
                  clear z0 f0 f1 f2 f3 f4 p0 p1 p2 p3 p4 p5 p6
                  obtain ⟨W, hW⟩ : ∃ W, W = (setRow w1.heap.size w2 0 [.bool true, .int .u32 T, .int .u8 cd, .int .i64 (dur), .bool true]).alloc (.cells #[.bool true, .int .u32 T, .int .u8 cd, .int .i64 (dur), .bool true] 24) := ⟨_, rfl⟩
                  replace BP : Hid (Blk W wr.heap.size _ _) := Lib.hid (by rw [hW]; exact (Blk.farRow (by omega) [.bool true, .int .u32 T, .int .u8 cd, .int .i64 (dur), .bool true] w2 0 BP.out).push _)
                  replace BR : Hid (Blk W w1.heap.size _ #[.bool true, .int .u32 T, .int .u8 cd, .int .i64 (dur), .bool true]) := Lib.hid (by rw [hW]; exact (BR.out.setRow [.bool true, .int .u32 T, .int .u8 cd, .int .i64 (dur), .bool true] rfl).push _)
                  replace U : Hid (Bel w1 W) := Lib.hid (by rw [hW]; exact Bel.push (below_setRow (Nat.le_refl _) [.bool true, .int .u32 T, .int .u8 cd, .int .i64 (dur), .bool true] w2 0 U.out) _)
                  have RK : Hid (RowsAt W w2.heap.size 4 Ev.Key.row A2 [⟨cd, true, T, 0⟩, ⟨cd, false, T, dur⟩]) := Lib.hid (by rw [hW]; exact rows_start RN.out (by rw [size_alloc1]; omega) [.bool true, .int .u32 T, .int .u8 cd, .int .i64 (dur), .bool true] _)
                  have hsz : w2.heap.size ≤ W.heap.size := by rw [hW, size_alloc1, setRow_size]; omega
                  have HO : Hid (Owns W w2.heap.size 70 4 none 0 0 (List.flatMap Ev.Key.row [])) := Lib.hid Owns.nil
                  simp only [setRow] at hW
                  rw [← hW]
                  clear hW RN
                  have g0 := (U.out.cell (p := ⟨lb, loff + i * 3, none⟩) hlB).trans HLi.out
                  have p0 := BP.out.at 0 _ rfl
                  have p1 := BP.out.at 1 _ rfl
                  have p2 := BP.out.at 2 _ rfl
                  have p3 := BP.out.at 3 _ rfl
                  have p4 := BP.out.at 4 _ rfl
                  have p5 := BP.out.at 5 _ rfl
                  have p6 := BP.out.at 6 _ rfl
                  have hU : Below w2.heap.size W W := Below.refl _ _
                  have HPW := Lib.hid (HP.out.later U.out)
                  go_wp2_with fail
                  try simp +zetaDelta only [Act.put, List.setIfInBounds_toArray, List.set_cons_succ, List.set_cons_zero]
                  go_region_held_law (fun w' => Below w2.heap.size W w' ∧ w'.cell? ⟨lb, loff + i * 3, none⟩ = some (.int .u8 cd) ∧ w'.cell? ⟨wr.heap.size, 0, none⟩ = some (.int .i64 (i : Int)) ∧ w'.cell? ⟨wr.heap.size, 1, none⟩ = some (.int .u32 T) ∧ w'.cell? ⟨wr.heap.size, 2, none⟩ = some (.bool mk) ∧ w'.cell? ⟨wr.heap.size, 3, none⟩ = some (.int .u8 cd) ∧ w'.cell? ⟨wr.heap.size, 4, none⟩ = some (.bool true) ∧ w'.cell? ⟨wr.heap.size, 5, none⟩ = some (.int .u8 vol) ∧ w'.cell? ⟨wr.heap.size, 6, none⟩ = some (.int .u16 dur))
                    (first | (with_reducible assumption) | ((try go_split_ands); refine and_dep ?_ (fun hbX => ⟨cell_keep hbX hlb2 g0, cell_keep hbX hp2 p0, cell_keep hbX hp2 p1, cell_keep hbX hp2 p2, cell_keep hbX hp2 p3, cell_keep hbX hp2 p4, cell_keep hbX hp2 p5, cell_keep hbX hp2 p6⟩); (with_reducible repeat first | assumption | refine Below.drew ?_ | refine below_keep_alloc ?_ hsz _)))
                    (first
                      | ((refine step_append_one 99 (by rfl) (by rfl) _ _ 26 (by rfl) w2.heap.size 70 4 16 _ Try.underlying26 info_key rfl (by decide) _ 0 _ _ (by rfl) (Owns.drew (Owns.alloc HO.out _)) W.heap.size [.int .u8 cd, .bool true, .int .u32 T, .int .i64 (0)] rfl (by simp [Value.oneCell']) (by rfl) ((Blk.new W _ _).drew) (by unfold maxLen; omega) (by omega) (by simp; omega) ?_); intro An cn wn hown hgr; have hbn : Below w2.heap.size W wn := (Below.drew (below_keep_alloc hU hsz _)).grown hgr (by simp; omega) (own_ge HO.out (Nat.le_refl _)))
                      )
                  have BP' := Lib.hid (((BP.out.push _).drew).grown hgr (own_ne HO.out hp2))
                  have BR' := Lib.hid (((BR.out.push _).drew).grown hgr (own_ne HO.out hr2))
                  have U' : Hid (Bel w1 wn) := Lib.hid (((U.out.push _).drew).grown hgr (Nat.le_trans U.out.size (by simp)) (own_ge HO.out h12))
                  have HO' := Lib.hid (own_key (K := []) (p := ⟨cd, true, T, 0⟩) (m := 1) hown rfl)
                  have RK' := Lib.hid (RK.out.keep (fun p hp => hbn.cell hp))
                  have hsz' : w2.heap.size ≤ wn.heap.size := Nat.le_trans hsz hbn.size
                  clear HPW hsz BP BR U HO RK g0 p0 p1 p2 p3 p4 p5 p6 hU hown hgr hbn
                  have BP := BP'
                  have BR := BR'
                  have U := U'
                  have HO := HO'
                  have RK := RK'
                  have hsz := hsz'
                  clear BP' BR' U' HO' RK' hsz'
                  obtain ⟨W, rfl⟩ : ∃ W0 : World, W0 = wn := ⟨_, rfl⟩
                  have g0 := (U.out.cell (p := ⟨lb, loff + i * 3, none⟩) hlB).trans HLi.out
                  have p0 := BP.out.at 0 _ rfl
                  have p1 := BP.out.at 1 _ rfl
                  have p2 := BP.out.at 2 _ rfl
                  have p3 := BP.out.at 3 _ rfl
                  have p4 := BP.out.at 4 _ rfl
                  have p5 := BP.out.at 5 _ rfl
                  have p6 := BP.out.at 6 _ rfl
                  have hU : Below w2.heap.size W W := Below.refl _ _
                  have HPW := Lib.hid (HP.out.later U.out)
                  go_wp2_with fail
                  try simp +zetaDelta only [Act.put, List.setIfInBounds_toArray, List.set_cons_succ, List.set_cons_zero]
                  go_region_held_law (fun w' => Below w2.heap.size W w' ∧ w'.cell? ⟨lb, loff + i * 3, none⟩ = some (.int .u8 cd) ∧ w'.cell? ⟨wr.heap.size, 0, none⟩ = some (.int .i64 (i : Int)) ∧ w'.cell? ⟨wr.heap.size, 1, none⟩ = some (.int .u32 T) ∧ w'.cell? ⟨wr.heap.size, 2, none⟩ = some (.bool mk) ∧ w'.cell? ⟨wr.heap.size, 3, none⟩ = some (.int .u8 cd) ∧ w'.cell? ⟨wr.heap.size, 4, none⟩ = some (.bool true) ∧ w'.cell? ⟨wr.heap.size, 5, none⟩ = some (.int .u8 vol) ∧ w'.cell? ⟨wr.heap.size, 6, none⟩ = some (.int .u16 dur))
                    (first | (with_reducible assumption) | ((try go_split_ands); refine and_dep ?_ (fun hbX => ⟨cell_keep hbX hlb2 g0, cell_keep hbX hp2 p0, cell_keep hbX hp2 p1, cell_keep hbX hp2 p2, cell_keep hbX hp2 p3, cell_keep hbX hp2 p4, cell_keep hbX hp2 p5, cell_keep hbX hp2 p6⟩); (with_reducible repeat first | assumption | refine Below.drew ?_ | refine below_keep_alloc ?_ hsz _)))
                    (first
                      | ((refine step_append_one 133 (by rfl) (by rfl) _ _ 26 (by rfl) w2.heap.size 70 4 16 _ Try.underlying26 info_key rfl (by decide) _ 1 _ _ (by rfl) (Owns.drew (Owns.alloc HO.out _)) W.heap.size [.int .u8 cd, .bool false, .int .u32 T, .int .i64 (dur)] rfl (by simp [Value.oneCell']) (by rfl) ((Blk.new W _ _).drew) (by unfold maxLen; omega) (by omega) (by simp; omega) ?_); intro An cn wn hown hgr; have hbn : Below w2.heap.size W wn := (Below.drew (below_keep_alloc hU hsz _)).grown hgr (by simp; omega) (own_ge HO.out (Nat.le_refl _)))
                      )
                  have BP' := Lib.hid (((BP.out.push _).drew).grown hgr (own_ne HO.out hp2))
                  have BR' := Lib.hid (((BR.out.push _).drew).grown hgr (own_ne HO.out hr2))
                  have U' : Hid (Bel w1 wn) := Lib.hid (((U.out.push _).drew).grown hgr (Nat.le_trans U.out.size (by simp)) (own_ge HO.out h12))
                  have HO' := Lib.hid (own_key (K := [⟨cd, true, T, 0⟩]) (p := ⟨cd, false, T, dur⟩) (m := 2) hown rfl)
                  have RK' := Lib.hid (RK.out.keep (fun p hp => hbn.cell hp))
                  have hsz' : w2.heap.size ≤ wn.heap.size := Nat.le_trans hsz hbn.size
                  clear HPW hsz BP BR U HO RK g0 p0 p1 p2 p3 p4 p5 p6 hU hown hgr hbn
                  have BP := BP'
                  have BR := BR'
                  have U := U'
                  have HO := HO'
                  have RK := RK'
                  have hsz := hsz'
                  clear BP' BR' U' HO' RK' hsz'
                  obtain ⟨W, rfl⟩ : ∃ W0 : World, W0 = wn := ⟨_, rfl⟩
                  have p0 := BP.out.at 0 _ rfl
                  have p1 := BP.out.at 1 _ rfl
                  have p2 := BP.out.at 2 _ rfl
                  have p3 := BP.out.at 3 _ rfl
                  have p4 := BP.out.at 4 _ rfl
                  have p5 := BP.out.at 5 _ rfl
                  have p6 := BP.out.at 6 _ rfl
                  go_wp2_with fail
                  refine (same29 A2 _ [⟨cd, true, T, 0⟩, ⟨cd, false, T, dur⟩] _ c2x _ rfl W (RK.out.more hsz) (Owns.rows HO.out rfl (fun _ => rfl)) (by simp)).mono ?_
                  rintro e w3 ⟨rfl, hb3⟩
                  replace U := Lib.hid (Bel.later U.out hb3)
                  replace BR := Lib.hid (BR.out.later hb3)
                  clear hb3 p0 p1 p2 p3 p4 p5 p6
                  go_wp2_with fail
                  go_roundg (gk - 1)
                  case measure => omega
                  case rel => exact ⟨k + 1, i, dur, true, true, T, cd, dur, true, by omega, by omega, by go_num, rfl, rfl, rfl, INV, BR, U⟩
            · have hio' : i = i0 := hio.symm
              subst hio'
              have e1 : T = x1 := by rw [HX1.out, HTT.out]
              have e2 : cd = x2 := by rw [HX2.out, HCD.out]
              subst e1 e2
              have hmd : (T - T) % 4294967296 = 0 := by omega
              have HMD := Lib.hid hmd
              clear hmd hio
              cases x4
              · cases fin
                · have kh := Lib.hid fun W => heard_any true T cd x3 false T cd false vol dur T0 T1 hid0 hid1 hl0 hl1 true T cd (max x3 dur) false [] (by rw [Ev.hear_same T x3 T cd false vol dur HMD.out]; rfl) W
                  have INV : Hid (Inv t l PL (i) (max x3 dur) false ⟨true, T, cd, (max x3 dur), false⟩) := Lib.hid (.inr ⟨i, hil, rfl, hmemk.out, by rw [← HTT.out, ← HCD.out], by omega, by omega⟩)
                  have hle : (i : Int) ≤ (i : Int) := Int.le_refl _
                  clear HI
                  have hrp : w1.heap.size < wr.heap.size := BR.out.lt
                  have hrn1 : wr.heap.size ≠ w1.heap.size := by omega
                  have hrn2 : w1.heap.size ≠ wr.heap.size := by omega
                  have f0 := BR.out.at 0 _ rfl
                  have f1 := BR.out.at 1 _ rfl
                  have f2 := BR.out.at 2 _ rfl
                  have f3 := BR.out.at 3 _ rfl
                  have f4 := BR.out.at 4 _ rfl
                  go_wp2_with fail
                  refine (kh.out _).mono ?_
                  rintro e w2 ⟨A2, c2x, rfl, hKS, hb2⟩
                  have hsb := hb2.size
                  rw [size_alloc1] at hsb
                  have hp2 : wr.heap.size < w2.heap.size := by omega
                  have hr2 : w1.heap.size < w2.heap.size := by have := BR.out.lt; omega
                  have h12 : w1.heap.size ≤ w2.heap.size := by omega
                  have hlb2 : lb < w2.heap.size := by omega
                  have BP := Lib.hid ((Blk.new wr 65 #[.int .i64 (i : Int), .int .u32 T, .bool mk, .int .u8 cd, .bool false, .int .u8 vol, .int .u16 dur]).later hb2)
                  replace BR := Lib.hid ((BR.out.push _).later hb2)
                  replace U := Lib.hid (Bel.later (U.out.push _) hb2)
                  have RN := Lib.hid hKS
                  clear hb2 hKS hsb f0 f1 f2 f3 f4 c0 c1' c2 c3 c4 c5 c6 e0 g0
                  have z0 := BR.out.frozen
                  have f0 := BR.out.at 0 _ rfl
                  have f1 := BR.out.at 1 _ rfl
                  have f2 := BR.out.at 2 _ rfl
                  have f3 := BR.out.at 3 _ rfl
                  have f4 := BR.out.at 4 _ rfl
                  have p0 := BP.out.at 0 _ rfl
                  have p1 := BP.out.at 1 _ rfl
                  have p2 := BP.out.at 2 _ rfl
                  have p3 := BP.out.at 3 _ rfl
                  have p4 := BP.out.at 4 _ rfl
                  have p5 := BP.out.at 5 _ rfl
                  have p6 := BP.out.at 6 _ rfl
                  go_wp2_with fail
                  clear z0 f0 f1 f2 f3 f4 p0 p1 p2 p3 p4 p5 p6
                  obtain ⟨W, hW⟩ : ∃ W, W = (setRow w1.heap.size w2 0 [.bool true, .int .u32 T, .int .u8 cd, .int .i64 ((max x3 dur)), .bool false]).alloc (.cells #[.bool true, .int .u32 T, .int .u8 cd, .int .i64 ((max x3 dur)), .bool false] 24) := ⟨_, rfl⟩
                  replace BP : Hid (Blk W wr.heap.size _ _) := Lib.hid (by rw [hW]; exact (Blk.farRow (by omega) [.bool true, .int .u32 T, .int .u8 cd, .int .i64 ((max x3 dur)), .bool false] w2 0 BP.out).push _)
                  replace BR : Hid (Blk W w1.heap.size _ #[.bool true, .int .u32 T, .int .u8 cd, .int .i64 ((max x3 dur)), .bool false]) := Lib.hid (by rw [hW]; exact (BR.out.setRow [.bool true, .int .u32 T, .int .u8 cd, .int .i64 ((max x3 dur)), .bool false] rfl).push _)
                  replace U : Hid (Bel w1 W) := Lib.hid (by rw [hW]; exact Bel.push (below_setRow (Nat.le_refl _) [.bool true, .int .u32 T, .int .u8 cd, .int .i64 ((max x3 dur)), .bool false] w2 0 U.out) _)
                  have RK : Hid (RowsAt W w2.heap.size 4 Ev.Key.row A2 []) := Lib.hid (by rw [hW]; exact rows_start RN.out (by rw [size_alloc1]; omega) [.bool true, .int .u32 T, .int .u8 cd, .int .i64 ((max x3 dur)), .bool false] _)
                  have hsz : w2.heap.size ≤ W.heap.size := by rw [hW, size_alloc1, setRow_size]; omega
                  have HO : Hid (Owns W w2.heap.size 70 4 none 0 0 (List.flatMap Ev.Key.row [])) := Lib.hid Owns.nil
                  simp only [setRow] at hW
                  rw [← hW]
                  clear hW RN
                  have p0 := BP.out.at 0 _ rfl
                  have p1 := BP.out.at 1 _ rfl
                  have p2 := BP.out.at 2 _ rfl
                  have p3 := BP.out.at 3 _ rfl
                  have p4 := BP.out.at 4 _ rfl
                  have p5 := BP.out.at 5 _ rfl
                  have p6 := BP.out.at 6 _ rfl
                  go_wp2_with fail
                  refine (same29 A2 _ [] _ c2x _ rfl W (RK.out.more hsz) (Owns.rows HO.out rfl (fun _ => rfl)) (by simp)).mono ?_
                  rintro e w3 ⟨rfl, hb3⟩
                  replace U := Lib.hid (Bel.later U.out hb3)
                  replace BR := Lib.hid (BR.out.later hb3)
                  clear hb3 p0 p1 p2 p3 p4 p5 p6
                  go_wp2_with fail
                  go_roundg (gk - 1)
                  case measure => omega
                  case rel => exact ⟨k + 1, i, max x3 dur, false, true, T, cd, (max x3 dur), false, by omega, by omega, by go_num, rfl, rfl, rfl, INV, BR, U⟩
                · have kh := Lib.hid fun W => heard_any true T cd x3 false T cd true vol dur T0 T1 hid0 hid1 hl0 hl1 true T cd (max x3 dur) true [⟨cd, false, T, max x3 dur⟩] (by rw [Ev.hear_same T x3 T cd true vol dur HMD.out]; rfl) W
                  have INV : Hid (Inv t l PL (i) (max x3 dur) true ⟨true, T, cd, (max x3 dur), true⟩) := Lib.hid (.inr ⟨i, hil, rfl, hmemk.out, by rw [← HTT.out, ← HCD.out], by omega, by omega⟩)
                  have hle : (i : Int) ≤ (i : Int) := Int.le_refl _
                  clear HI
                  have hrp : w1.heap.size < wr.heap.size := BR.out.lt
                  have hrn1 : wr.heap.size ≠ w1.heap.size := by omega
                  have hrn2 : w1.heap.size ≠ wr.heap.size := by omega
                  have f0 := BR.out.at 0 _ rfl
                  have f1 := BR.out.at 1 _ rfl
                  have f2 := BR.out.at 2 _ rfl
                  have f3 := BR.out.at 3 _ rfl
                  have f4 := BR.out.at 4 _ rfl
                  go_wp2_with fail
                  refine (kh.out _).mono ?_
                  rintro e w2 ⟨A2, c2x, rfl, hKS, hb2⟩
                  have hsb := hb2.size
                  rw [size_alloc1] at hsb
                  have hp2 : wr.heap.size < w2.heap.size := by omega
                  have hr2 : w1.heap.size < w2.heap.size := by have := BR.out.lt; omega
                  have h12 : w1.heap.size ≤ w2.heap.size := by omega
                  have hlb2 : lb < w2.heap.size := by omega
                  have BP := Lib.hid ((Blk.new wr 65 #[.int .i64 (i : Int), .int .u32 T, .bool mk, .int .u8 cd, .bool true, .int .u8 vol, .int .u16 dur]).later hb2)
                  replace BR := Lib.hid ((BR.out.push _).later hb2)
                  replace U := Lib.hid (Bel.later (U.out.push _) hb2)
                  have RN := Lib.hid hKS
                  clear hb2 hKS hsb f0 f1 f2 f3 f4 c0 c1' c2 c3 c4 c5 c6 e0 g0
                  have z0 := BR.out.frozen
                  have f0 := BR.out.at 0 _ rfl
                  have f1 := BR.out.at 1 _ rfl
                  have f2 := BR.out.at 2 _ rfl
                  have f3 := BR.out.at 3 _ rfl
                  have f4 := BR.out.at 4 _ rfl
                  have p0 := BP.out.at 0 _ rfl
                  have p1 := BP.out.at 1 _ rfl
                  have p2 := BP.out.at 2 _ rfl
                  have p3 := BP.out.at 3 _ rfl
                  have p4 := BP.out.at 4 _ rfl
                  have p5 := BP.out.at 5 _ rfl
                  have p6 := BP.out.at 6 _ rfl
                  go_wp2_with fail
                  clear z0 f0 f1 f2 f3 f4 p0 p1 p2 p3 p4 p5 p6
                  obtain ⟨W, hW⟩ : ∃ W, W = (setRow w1.heap.size w2 0 [.bool true, .int .u32 T, .int .u8 cd, .int .i64 ((max x3 dur)), .bool true]).alloc (.cells #[.bool true, .int .u32 T, .int .u8 cd, .int .i64 ((max x3 dur)), .bool true] 24) := ⟨_, rfl⟩
                  replace BP : Hid (Blk W wr.heap.size _ _) := Lib.hid (by rw [hW]; exact (Blk.farRow (by omega) [.bool true, .int .u32 T, .int .u8 cd, .int .i64 ((max x3 dur)), .bool true] w2 0 BP.out).push _)
                  replace BR : Hid (Blk W w1.heap.size _ #[.bool true, .int .u32 T, .int .u8 cd, .int .i64 ((max x3 dur)), .bool true]) := Lib.hid (by rw [hW]; exact (BR.out.setRow [.bool true, .int .u32 T, .int .u8 cd, .int .i64 ((max x3 dur)), .bool true] rfl).push _)
                  replace U : Hid (Bel w1 W) := Lib.hid (by rw [hW]; exact Bel.push (below_setRow (Nat.le_refl _) [.bool true, .int .u32 T, .int .u8 cd, .int .i64 ((max x3 dur)), .bool true] w2 0 U.out) _)
                  have RK : Hid (RowsAt W w2.heap.size 4 Ev.Key.row A2 [⟨cd, false, T, max x3 dur⟩]) := Lib.hid (by rw [hW]; exact rows_start RN.out (by rw [size_alloc1]; omega) [.bool true, .int .u32 T, .int .u8 cd, .int .i64 ((max x3 dur)), .bool true] _)
                  have hsz : w2.heap.size ≤ W.heap.size := by rw [hW, size_alloc1, setRow_size]; omega
                  have HO : Hid (Owns W w2.heap.size 70 4 none 0 0 (List.flatMap Ev.Key.row [])) := Lib.hid Owns.nil
                  simp only [setRow] at hW
                  rw [← hW]
                  clear hW RN
                  have g0 := (U.out.cell (p := ⟨lb, loff + i * 3, none⟩) hlB).trans HLi.out
                  have p0 := BP.out.at 0 _ rfl
                  have p1 := BP.out.at 1 _ rfl
                  have p2 := BP.out.at 2 _ rfl
                  have p3 := BP.out.at 3 _ rfl
                  have p4 := BP.out.at 4 _ rfl
                  have p5 := BP.out.at 5 _ rfl
                  have p6 := BP.out.at 6 _ rfl
                  have hU : Below w2.heap.size W W := Below.refl _ _
                  have HPW := Lib.hid (HP.out.later U.out)
                  go_wp2_with fail
                  try simp +zetaDelta only [Act.put, List.setIfInBounds_toArray, List.set_cons_succ, List.set_cons_zero]
                  go_region_held_law (fun w' => Below w2.heap.size W w' ∧ w'.cell? ⟨lb, loff + i * 3, none⟩ = some (.int .u8 cd) ∧ w'.cell? ⟨wr.heap.size, 0, none⟩ = some (.int .i64 (i : Int)) ∧ w'.cell? ⟨wr.heap.size, 1, none⟩ = some (.int .u32 T) ∧ w'.cell? ⟨wr.heap.size, 2, none⟩ = some (.bool mk) ∧ w'.cell? ⟨wr.heap.size, 3, none⟩ = some (.int .u8 cd) ∧ w'.cell? ⟨wr.heap.size, 4, none⟩ = some (.bool true) ∧ w'.cell? ⟨wr.heap.size, 5, none⟩ = some (.int .u8 vol) ∧ w'.cell? ⟨wr.heap.size, 6, none⟩ = some (.int .u16 dur))
                    (first | (with_reducible assumption) | ((try go_split_ands); refine and_dep ?_ (fun hbX => ⟨cell_keep hbX hlb2 g0, cell_keep hbX hp2 p0, cell_keep hbX hp2 p1, cell_keep hbX hp2 p2, cell_keep hbX hp2 p3, cell_keep hbX hp2 p4, cell_keep hbX hp2 p5, cell_keep hbX hp2 p6⟩); (with_reducible repeat first | assumption | refine Below.drew ?_ | refine below_keep_alloc ?_ hsz _)))
                    (first
                      | ((refine step_append_one 133 (by rfl) (by rfl) _ _ 26 (by rfl) w2.heap.size 70 4 16 _ Try.underlying26 info_key rfl (by decide) _ 0 _ _ (by rfl) (Owns.drew (Owns.alloc HO.out _)) W.heap.size [.int .u8 cd, .bool false, .int .u32 T, .int .i64 (max x3 dur)] rfl (by simp [Value.oneCell']) (by rfl) ((Blk.new W _ _).drew) (by unfold maxLen; omega) (by omega) (by simp; omega) ?_); intro An cn wn hown hgr; have hbn : Below w2.heap.size W wn := (Below.drew (below_keep_alloc hU hsz _)).grown hgr (by simp; omega) (own_ge HO.out (Nat.le_refl _)))
                      )
                  have BP' := Lib.hid (((BP.out.push _).drew).grown hgr (own_ne HO.out hp2))
                  have BR' := Lib.hid (((BR.out.push _).drew).grown hgr (own_ne HO.out hr2))
                  have U' : Hid (Bel w1 wn) := Lib.hid (((U.out.push _).drew).grown hgr (Nat.le_trans U.out.size (by simp)) (own_ge HO.out h12))
                  have HO' := Lib.hid (own_key (K := []) (p := ⟨cd, false, T, max x3 dur⟩) (m := 1) hown rfl)
                  have RK' := Lib.hid (RK.out.keep (fun p hp => hbn.cell hp))
                  have hsz' : w2.heap.size ≤ wn.heap.size := Nat.le_trans hsz hbn.size
                  clear HPW hsz BP BR U HO RK g0 p0 p1 p2 p3 p4 p5 p6 hU hown hgr hbn
                  have BP := BP'
                  have BR := BR'
                  have U := U'
                  have HO := HO'
                  have RK := RK'
                  have hsz := hsz'
                  clear BP' BR' U' HO' RK' hsz'
                  obtain ⟨W, rfl⟩ : ∃ W0 : World, W0 = wn := ⟨_, rfl⟩
                  have p0 := BP.out.at 0 _ rfl
                  have p1 := BP.out.at 1 _ rfl
                  have p2 := BP.out.at 2 _ rfl
                  have p3 := BP.out.at 3 _ rfl
                  have p4 := BP.out.at 4 _ rfl
                  have p5 := BP.out.at 5 _ rfl
                  have p6 := BP.out.at 6 _ rfl
                  go_wp2_with fail
                  refine (same29 A2 _ [⟨cd, false, T, max x3 dur⟩] _ c2x _ rfl W (RK.out.more hsz) (Owns.rows HO.out rfl (fun _ => rfl)) (by simp)).mono ?_
                  rintro e w3 ⟨rfl, hb3⟩
                  replace U := Lib.hid (Bel.later U.out hb3)
                  replace BR := Lib.hid (BR.out.later hb3)
                  clear hb3 p0 p1 p2 p3 p4 p5 p6
                  go_wp2_with fail
                  go_roundg (gk - 1)
                  case measure => omega
                  case rel => exact ⟨k + 1, i, max x3 dur, true, true, T, cd, (max x3 dur), true, by omega, by omega, by go_num, rfl, rfl, rfl, INV, BR, U⟩
              · have kh := Lib.hid fun W => heard_any true T cd x3 true T cd fin vol dur T0 T1 hid0 hid1 hl0 hl1 true T cd x3 true [] (Ev.hear_none T cd x3 true T cd fin vol dur (by rw [HMD.out]; omega) (by simp)) W
                have INV : Hid (Inv t l PL (i) (x3) true ⟨true, T, cd, x3, true⟩) := Lib.hid HI.out
                have hle : (i : Int) ≤ (i : Int) := Int.le_refl _
                clear HI
                have hrp : w1.heap.size < wr.heap.size := BR.out.lt
                have hrn1 : wr.heap.size ≠ w1.heap.size := by omega
                have hrn2 : w1.heap.size ≠ wr.heap.size := by omega
                have f0 := BR.out.at 0 _ rfl
                have f1 := BR.out.at 1 _ rfl
                have f2 := BR.out.at 2 _ rfl
                have f3 := BR.out.at 3 _ rfl
                have f4 := BR.out.at 4 _ rfl
                go_wp2_with fail
                refine (kh.out _).mono ?_
                rintro e w2 ⟨A2, c2x, rfl, hKS, hb2⟩
                have hsb := hb2.size
                rw [size_alloc1] at hsb
                have hp2 : wr.heap.size < w2.heap.size := by omega
                have hr2 : w1.heap.size < w2.heap.size := by have := BR.out.lt; omega
                have h12 : w1.heap.size ≤ w2.heap.size := by omega
                have hlb2 : lb < w2.heap.size := by omega
                have BP := Lib.hid ((Blk.new wr 65 #[.int .i64 (i : Int), .int .u32 T, .bool mk, .int .u8 cd, .bool fin, .int .u8 vol, .int .u16 dur]).later hb2)
                replace BR := Lib.hid ((BR.out.push _).later hb2)
                replace U := Lib.hid (Bel.later (U.out.push _) hb2)
                have RN := Lib.hid hKS
                clear hb2 hKS hsb f0 f1 f2 f3 f4 c0 c1' c2 c3 c4 c5 c6 e0 g0
                have z0 := BR.out.frozen
                have f0 := BR.out.at 0 _ rfl
                have f1 := BR.out.at 1 _ rfl
                have f2 := BR.out.at 2 _ rfl
                have f3 := BR.out.at 3 _ rfl
                have f4 := BR.out.at 4 _ rfl
                have p0 := BP.out.at 0 _ rfl
                have p1 := BP.out.at 1 _ rfl
                have p2 := BP.out.at 2 _ rfl
                have p3 := BP.out.at 3 _ rfl
                have p4 := BP.out.at 4 _ rfl
                have p5 := BP.out.at 5 _ rfl
                have p6 := BP.out.at 6 _ rfl
                go_wp2_with fail
                clear z0 f0 f1 f2 f3 f4 p0 p1 p2 p3 p4 p5 p6
                obtain ⟨W, hW⟩ : ∃ W, W = (setRow w1.heap.size w2 0 [.bool true, .int .u32 T, .int .u8 cd, .int .i64 (x3), .bool true]).alloc (.cells #[.bool true, .int .u32 T, .int .u8 cd, .int .i64 (x3), .bool true] 24) := ⟨_, rfl⟩
                replace BP : Hid (Blk W wr.heap.size _ _) := Lib.hid (by rw [hW]; exact (Blk.farRow (by omega) [.bool true, .int .u32 T, .int .u8 cd, .int .i64 (x3), .bool true] w2 0 BP.out).push _)
                replace BR : Hid (Blk W w1.heap.size _ #[.bool true, .int .u32 T, .int .u8 cd, .int .i64 (x3), .bool true]) := Lib.hid (by rw [hW]; exact (BR.out.setRow [.bool true, .int .u32 T, .int .u8 cd, .int .i64 (x3), .bool true] rfl).push _)
                replace U : Hid (Bel w1 W) := Lib.hid (by rw [hW]; exact Bel.push (below_setRow (Nat.le_refl _) [.bool true, .int .u32 T, .int .u8 cd, .int .i64 (x3), .bool true] w2 0 U.out) _)
                have RK : Hid (RowsAt W w2.heap.size 4 Ev.Key.row A2 []) := Lib.hid (by rw [hW]; exact rows_start RN.out (by rw [size_alloc1]; omega) [.bool true, .int .u32 T, .int .u8 cd, .int .i64 (x3), .bool true] _)
                have hsz : w2.heap.size ≤ W.heap.size := by rw [hW, size_alloc1, setRow_size]; omega
                have HO : Hid (Owns W w2.heap.size 70 4 none 0 0 (List.flatMap Ev.Key.row [])) := Lib.hid Owns.nil
                simp only [setRow] at hW
                rw [← hW]
                clear hW RN
                have p0 := BP.out.at 0 _ rfl
                have p1 := BP.out.at 1 _ rfl
                have p2 := BP.out.at 2 _ rfl
                have p3 := BP.out.at 3 _ rfl
                have p4 := BP.out.at 4 _ rfl
                have p5 := BP.out.at 5 _ rfl
                have p6 := BP.out.at 6 _ rfl
                go_wp2_with fail
                refine (same29 A2 _ [] _ c2x _ rfl W (RK.out.more hsz) (Owns.rows HO.out rfl (fun _ => rfl)) (by simp)).mono ?_
                rintro e w3 ⟨rfl, hb3⟩
                replace U := Lib.hid (Bel.later U.out hb3)
                replace BR := Lib.hid (BR.out.later hb3)
                clear hb3 p0 p1 p2 p3 p4 p5 p6
                go_wp2_with fail
                go_roundg (gk - 1)
                case measure => omega
                case rel => exact ⟨k + 1, i, x3, true, true, T, cd, x3, true, by omega, by omega, by go_num, rfl, rfl, rfl, INV, BR, U⟩
            · have hdn := TT_down t l i0 i hio (by omega)
              rw [← HTT.out, ← HX1.out] at hdn
              have HDN := Lib.hid hdn
              clear hdn
              have kh := Lib.hid fun W => heard_any true x1 x2 x3 x4 T cd fin vol dur T0 T1 hid0 hid1 hl0 hl1 true x1 x2 x3 x4 [] (Ev.hear_none x1 x2 x3 x4 T cd fin vol dur (by have := HDN.out; omega) (by have := HDN.out; omega)) W
              have INV : Hid (Inv t l PL (i0) (x3) x4 ⟨true, x1, x2, x3, x4⟩) := Lib.hid HI.out
              have hle : (i : Int) ≤ (i0 : Int) := by omega
              have hneq : ((i : Int) == (i0 : Int)) = false := by rw [beq_eq_false_iff_ne]; omega
              clear HI
              have hrp : w1.heap.size < wr.heap.size := BR.out.lt
              have hrn1 : wr.heap.size ≠ w1.heap.size := by omega
              have hrn2 : w1.heap.size ≠ wr.heap.size := by omega
              have f0 := BR.out.at 0 _ rfl
              have f1 := BR.out.at 1 _ rfl
              have f2 := BR.out.at 2 _ rfl
              have f3 := BR.out.at 3 _ rfl
              have f4 := BR.out.at 4 _ rfl
              go_wp2_with fail
              refine (kh.out _).mono ?_
              rintro e w2 ⟨A2, c2x, rfl, hKS, hb2⟩
              have hsb := hb2.size
              rw [size_alloc1] at hsb
              have hp2 : wr.heap.size < w2.heap.size := by omega
              have hr2 : w1.heap.size < w2.heap.size := by have := BR.out.lt; omega
              have h12 : w1.heap.size ≤ w2.heap.size := by omega
              have hlb2 : lb < w2.heap.size := by omega
              have BP := Lib.hid ((Blk.new wr 65 #[.int .i64 (i : Int), .int .u32 T, .bool mk, .int .u8 cd, .bool fin, .int .u8 vol, .int .u16 dur]).later hb2)
              replace BR := Lib.hid ((BR.out.push _).later hb2)
              replace U := Lib.hid (Bel.later (U.out.push _) hb2)
              have RN := Lib.hid hKS
              clear hb2 hKS hsb f0 f1 f2 f3 f4 c0 c1' c2 c3 c4 c5 c6 e0 g0
              have z0 := BR.out.frozen
              have f0 := BR.out.at 0 _ rfl
              have f1 := BR.out.at 1 _ rfl
              have f2 := BR.out.at 2 _ rfl
              have f3 := BR.out.at 3 _ rfl
              have f4 := BR.out.at 4 _ rfl
              have p0 := BP.out.at 0 _ rfl
              have p1 := BP.out.at 1 _ rfl
              have p2 := BP.out.at 2 _ rfl
              have p3 := BP.out.at 3 _ rfl
              have p4 := BP.out.at 4 _ rfl
              have p5 := BP.out.at 5 _ rfl
              have p6 := BP.out.at 6 _ rfl
              go_wp2_with fail
              clear z0 f0 f1 f2 f3 f4 p0 p1 p2 p3 p4 p5 p6
              obtain ⟨W, hW⟩ : ∃ W, W = (setRow w1.heap.size w2 0 [.bool true, .int .u32 x1, .int .u8 x2, .int .i64 (x3), .bool x4]).alloc (.cells #[.bool true, .int .u32 x1, .int .u8 x2, .int .i64 (x3), .bool x4] 24) := ⟨_, rfl⟩
              replace BP : Hid (Blk W wr.heap.size _ _) := Lib.hid (by rw [hW]; exact (Blk.farRow (by omega) [.bool true, .int .u32 x1, .int .u8 x2, .int .i64 (x3), .bool x4] w2 0 BP.out).push _)
              replace BR : Hid (Blk W w1.heap.size _ #[.bool true, .int .u32 x1, .int .u8 x2, .int .i64 (x3), .bool x4]) := Lib.hid (by rw [hW]; exact (BR.out.setRow [.bool true, .int .u32 x1, .int .u8 x2, .int .i64 (x3), .bool x4] rfl).push _)
              replace U : Hid (Bel w1 W) := Lib.hid (by rw [hW]; exact Bel.push (below_setRow (Nat.le_refl _) [.bool true, .int .u32 x1, .int .u8 x2, .int .i64 (x3), .bool x4] w2 0 U.out) _)
              have RK : Hid (RowsAt W w2.heap.size 4 Ev.Key.row A2 []) := Lib.hid (by rw [hW]; exact rows_start RN.out (by rw [size_alloc1]; omega) [.bool true, .int .u32 x1, .int .u8 x2, .int .i64 (x3), .bool x4] _)
              have hsz : w2.heap.size ≤ W.heap.size := by rw [hW, size_alloc1, setRow_size]; omega
              have HO : Hid (Owns W w2.heap.size 70 4 none 0 0 (List.flatMap Ev.Key.row [])) := Lib.hid Owns.nil
              simp only [setRow] at hW
              rw [← hW]
              clear hW RN
              have p0 := BP.out.at 0 _ rfl
              have p1 := BP.out.at 1 _ rfl
              have p2 := BP.out.at 2 _ rfl
              have p3 := BP.out.at 3 _ rfl
              have p4 := BP.out.at 4 _ rfl
              have p5 := BP.out.at 5 _ rfl
              have p6 := BP.out.at 6 _ rfl
              go_wp2_with fail
              refine (same29 A2 _ [] _ c2x _ rfl W (RK.out.more hsz) (Owns.rows HO.out rfl (fun _ => rfl)) (by simp)).mono ?_
              rintro e w3 ⟨rfl, hb3⟩
              replace U := Lib.hid (Bel.later U.out hb3)
              replace BR := Lib.hid (BR.out.later hb3)
              clear hb3 p0 p1 p2 p3 p4 p5 p6
              go_wp2_with fail
              go_roundg (gk - 1)
              case measure => omega
              case rel => exact ⟨k + 1, i0, x3, x4, true, x1, x2, x3, x4, by omega, by omega, by go_num, rfl, rfl, rfl, INV, BR, U⟩
        · have hi1 : (k : Int) < (us.length : Int) := by omega
          have hi2 : (100 : Int) ≤ (k : Int) := by omega
          go_wp2_with fail
          refine (lives29 _).mono ?_
          rintro e w2 ⟨rfl, hb2⟩
          go_wp2_with fail
          go_ret
          exact ⟨rfl, Bel.later (Bel.later U1.out U.out) hb2⟩
      · have hi1 : (us.length : Int) ≤ (k : Int) := by omega
        go_wp2_with fail
        refine (lives29 _).mono ?_
        rintro e w2 ⟨rfl, hb2⟩
        go_wp2_with fail
        go_ret
        exact ⟨rfl, Bel.later (Bel.later U1.out U.out) hb2⟩
end Go.Proofs.Ytangooegialmcaa.eventsOnce

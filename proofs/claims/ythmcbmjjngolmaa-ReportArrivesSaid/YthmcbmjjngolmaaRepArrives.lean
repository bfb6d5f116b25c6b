/- Layer 26, ReportArrives: for every statistics, packets and numbers the law returns true. -/
import Derived.Test.YthmcbmjjngolmaaRepLives
import Derived.Test.YthmcbmjjngolmaaRepTypes
import Derived.StillTailTactics
namespace Go.Proofs.Ythmcbmjjngolmaa.reportArrives
open Go.RowKit
set_option linter.unusedVariables false
set_option linter.unusedSimpArgs false
attribute [local go_sem ↓] run_min_plain run_max_plain
attribute [local go_sem] setCell_drewN alloc_drewN
set_option maxRecDepth 100000 in
set_option maxHeartbeats 6400000 in
theorem main (w : World) (a0 : Bool) (a1 a2 a3 a4 a5 a6 a7 : Int) (A : Option Addr) (l : List TPk) (cap : Nat) (hR : RowsAt w w.heap.size 3 TPk.row A l) (hlen : l.length ≤ maxLen) (so la de : Int) :
    Calls Try.prog 3 #[.agg #[.bool a0, .int .i64 a1, .int .i64 a2, .int .i64 a3, .int .i64 a4, .int .i64 a5, .int .i64 a6, .int .i64 a7], .slice A l.length cap, .int .u32 so, .int .u32 la, .int .u32 de] w fun e w' => e = .returned (.bool true) ∧ Below w.heap.size w w' := by
  have HR := Lib.hid hR
  unfold maxLen at hlen
  clear hR
  go_enter Try.func3, Try.ntmps3
  have U := Lib.hid (Bel.push (Bel.push (Bel.refl w) (.cells #[.bool a0, .int .i64 a1, .int .i64 a2, .int .i64 a3, .int .i64 a4, .int .i64 a5, .int .i64 a6, .int .i64 a7] 23)) (.cells #[.bool a0, .int .i64 a1, .int .i64 a2, .int .i64 a3, .int .i64 a4, .int .i64 a5, .int .i64 a6, .int .i64 a7] 23))
  have S := Lib.hid ((Blk.new w 23 #[.bool a0, .int .i64 a1, .int .i64 a2, .int .i64 a3, .int .i64 a4, .int .i64 a5, .int .i64 a6, .int .i64 a7]).push (.cells #[.bool a0, .int .i64 a1, .int .i64 a2, .int .i64 a3, .int .i64 a4, .int .i64 a5, .int .i64 a6, .int .i64 a7] 23))
  have S2 := Lib.hid (Blk.new1 w (.cells #[.bool a0, .int .i64 a1, .int .i64 a2, .int .i64 a3, .int .i64 a4, .int .i64 a5, .int .i64 a6, .int .i64 a7] 23) 23 #[.bool a0, .int .i64 a1, .int .i64 a2, .int .i64 a3, .int .i64 a4, .int .i64 a5, .int .i64 a6, .int .i64 a7])
  go_wp2_with fail
  obtain ⟨g5, hg5⟩ : ∃ g, g = w.heap.size := ⟨_, rfl⟩
  have HG := Lib.hid hg5
  go_loopg [12] l.length (fun gk i wr => ∃ (k : Nat) (x0 : Bool) (x1 x2 x3 x4 x5 x6 x7 : Int), gk + k = l.length ∧ i = .int .i64 k ∧ Hid (Blk wr w.heap.size 23 #[.bool x0, .int .i64 x1, .int .i64 x2, .int .i64 x3, .int .i64 x4, .int .i64 x5, .int .i64 x6, .int .i64 x7]) ∧ Hid (Blk wr (w.heap.size + 1) 23 #[.bool x0, .int .i64 x1, .int .i64 x2, .int .i64 x3, .int .i64 x4, .int .i64 x5, .int .i64 x6, .int .i64 x7]) ∧ Hid (Bel w wr))
  case atStart => exact ⟨0, a0, a1, a2, a3, a4, a5, a6, a7, rfl, rfl, S, S2, U⟩
  case round =>
    clear S S2 U hg5 HG
    obtain ⟨k, x0, x1, x2, x3, x4, x5, x6, x7, hgk, rfl, S, S2, U⟩ := hrel
    have hi0 : (0 : Int) ≤ (k : Int) := by omega
    by_cases hlt : k < l.length
    rotate_left
    · have hi1 : (l.length : Int) ≤ (k : Int) := by omega
      go_wp2_with fail
      refine (lives26 _).mono ?_
      rintro e w9 ⟨rfl, hb⟩
      go_wp2_with fail
      go_ret
      exact ⟨rfl, U.out.later hb⟩
    have hi1 : (k : Int) < (l.length : Int) := by omega
    by_cases h100 : k < 100
    rotate_left
    · have hi2 : (100 : Int) ≤ (k : Int) := by omega
      go_wp2_with fail
      refine (lives26 _).mono ?_
      rintro e w9 ⟨rfl, hb⟩
      go_wp2_with fail
      go_ret
      exact ⟨rfl, U.out.later hb⟩
    have hi2 : (k : Int) < 100 := by omega
    obtain ⟨p, hp⟩ : ∃ p, l[k]? = some p := ⟨_, List.getElem?_eq_getElem hlt⟩
    have hcell : ∃ b off, A = some ⟨b, off, none⟩ ∧ b < w.heap.size ∧ w.cell? ⟨b, off + k * 3, none⟩ = some (.int .i64 p.seq) ∧ w.cell? ⟨b, off + k * 3 + 1, none⟩ = some (.int .i64 p.arr) ∧ w.cell? ⟨b, off + k * 3 + 2, none⟩ = some (.int .i64 p.time) := by
      obtain ⟨b, off, rfl, hb, hc⟩ := HR.out (by omega)
      exact ⟨b, off, rfl, hb, hc k p hp 0 _ rfl, hc k p hp 1 _ rfl, hc k p hp 2 _ rfl⟩
    obtain ⟨b, off, rfl, hbB, q0, q1, q2⟩ := hcell
    obtain ⟨ps, pa, pt⟩ := p
    simp only at q0 q1 q2
    have Q0 := Lib.hid q0
    have Q1 := Lib.hid q1
    have Q2 := Lib.hid q2
    clear q0 q1 q2 hp
    have k1 := fun W => Summary_any x0 x1 x2 x3 x4 x5 x6 x7 W so la de
    have k2 := fun W => rSummary_any x0 x1 x2 x3 x4 x5 x6 x7 W so la de
    generalize Rep.summary ⟨x0, x1, x2, x3, x4, x5, x6, x7⟩ so la de = R at *
    obtain ⟨⟨b0, b1, b2, b3, b4, b5, b6⟩, ⟨u0, u1, u2, u3, u4, u5, u6, u7⟩⟩ := R
    simp only [Rep.Bk.row, Rep.St.row] at k1 k2
    have K1 := Lib.hid k1
    have K2 := Lib.hid k2
    clear k1 k2
    have s0 := S.out.at 0 _ rfl
    have s1 := S.out.at 1 _ rfl
    have s2 := S.out.at 2 _ rfl
    have s3 := S.out.at 3 _ rfl
    have s4 := S.out.at 4 _ rfl
    have s5 := S.out.at 5 _ rfl
    have s6 := S.out.at 6 _ rfl
    have s7 := S.out.at 7 _ rfl
    go_wp2_with fail
    refine (K1.out _).mono ?_
    rintro e v1 ⟨rfl, hb⟩
    replace S := Lib.hid (S.out.later hb)
    replace S2 := Lib.hid (S2.out.later hb)
    replace U := Lib.hid (U.out.later hb)
    clear hb s0 s1 s2 s3 s4 s5 s6 s7
    have hgg : w.heap.size + 1 < v1.heap.size := S2.out.lt
    have C1 := Lib.hid ((Blk.new v1 27 #[.int .u32 b0, .int .u8 b1, .int .i64 b2, .int .u32 b3, .int .u32 b4, .int .u32 b5, .int .u32 b6]).push (.cells #[.bool u0, .int .i64 u1, .int .i64 u2, .int .i64 u3, .int .i64 u4, .int .i64 u5, .int .i64 u6, .int .i64 u7] 23))
    have C2 := Lib.hid (Blk.new1 v1 (.cells #[.int .u32 b0, .int .u8 b1, .int .i64 b2, .int .u32 b3, .int .u32 b4, .int .u32 b5, .int .u32 b6] 27) 23 #[.bool u0, .int .i64 u1, .int .i64 u2, .int .i64 u3, .int .i64 u4, .int .i64 u5, .int .i64 u6, .int .i64 u7])
    replace S := Lib.hid ((S.out.push (.cells #[.int .u32 b0, .int .u8 b1, .int .i64 b2, .int .u32 b3, .int .u32 b4, .int .u32 b5, .int .u32 b6] 27)).push (.cells #[.bool u0, .int .i64 u1, .int .i64 u2, .int .i64 u3, .int .i64 u4, .int .i64 u5, .int .i64 u6, .int .i64 u7] 23))
    replace S2 := Lib.hid ((S2.out.push (.cells #[.int .u32 b0, .int .u8 b1, .int .i64 b2, .int .u32 b3, .int .u32 b4, .int .u32 b5, .int .u32 b6] 27)).push (.cells #[.bool u0, .int .i64 u1, .int .i64 u2, .int .i64 u3, .int .i64 u4, .int .i64 u5, .int .i64 u6, .int .i64 u7] 23))
    replace U := Lib.hid ((U.out.push (.cells #[.int .u32 b0, .int .u8 b1, .int .i64 b2, .int .u32 b3, .int .u32 b4, .int .u32 b5, .int .u32 b6] 27)).push (.cells #[.bool u0, .int .i64 u1, .int .i64 u2, .int .i64 u3, .int .i64 u4, .int .i64 u5, .int .i64 u6, .int .i64 u7] 23))
    obtain ⟨g3, hg3⟩ : ∃ g, g = v1.heap.size := ⟨_, rfl⟩
    rw [← hg3] at C1 C2 hgg
    have s0 := S2.out.at 0 _ rfl
    have s1 := S2.out.at 1 _ rfl
    have s2 := S2.out.at 2 _ rfl
    have s3 := S2.out.at 3 _ rfl
    have s4 := S2.out.at 4 _ rfl
    have s5 := S2.out.at 5 _ rfl
    have s6 := S2.out.at 6 _ rfl
    have s7 := S2.out.at 7 _ rfl
    go_wp2_with fail
    rw [← hg3]
    refine (K2.out _).mono ?_
    rintro e v2 ⟨rfl, hb⟩
    clear hg3 s0 s1 s2 s3 s4 s5 s6 s7
    replace S := Lib.hid (S.out.later hb)
    replace S2 := Lib.hid (S2.out.later hb)
    replace U := Lib.hid (U.out.later hb)
    replace C1 := Lib.hid (C1.out.later hb)
    replace C2 := Lib.hid (C2.out.later hb)
    clear hb
    have hg4 : g3 + 1 < v2.heap.size := C2.out.lt
    have C3 := Lib.hid ((Blk.new v2 27 #[.int .u32 b0, .int .u8 b1, .int .i64 b2, .int .u32 b3, .int .u32 b4, .int .u32 b5, .int .u32 b6]).push (.cells #[.bool u0, .int .i64 u1, .int .i64 u2, .int .i64 u3, .int .i64 u4, .int .i64 u5, .int .i64 u6, .int .i64 u7] 23))
    have C4 := Lib.hid (Blk.new1 v2 (.cells #[.int .u32 b0, .int .u8 b1, .int .i64 b2, .int .u32 b3, .int .u32 b4, .int .u32 b5, .int .u32 b6] 27) 23 #[.bool u0, .int .i64 u1, .int .i64 u2, .int .i64 u3, .int .i64 u4, .int .i64 u5, .int .i64 u6, .int .i64 u7])
    replace S := Lib.hid ((S.out.push (.cells #[.int .u32 b0, .int .u8 b1, .int .i64 b2, .int .u32 b3, .int .u32 b4, .int .u32 b5, .int .u32 b6] 27)).push (.cells #[.bool u0, .int .i64 u1, .int .i64 u2, .int .i64 u3, .int .i64 u4, .int .i64 u5, .int .i64 u6, .int .i64 u7] 23))
    replace S2 := Lib.hid ((S2.out.push (.cells #[.int .u32 b0, .int .u8 b1, .int .i64 b2, .int .u32 b3, .int .u32 b4, .int .u32 b5, .int .u32 b6] 27)).push (.cells #[.bool u0, .int .i64 u1, .int .i64 u2, .int .i64 u3, .int .i64 u4, .int .i64 u5, .int .i64 u6, .int .i64 u7] 23))
    replace U := Lib.hid ((U.out.push (.cells #[.int .u32 b0, .int .u8 b1, .int .i64 b2, .int .u32 b3, .int .u32 b4, .int .u32 b5, .int .u32 b6] 27)).push (.cells #[.bool u0, .int .i64 u1, .int .i64 u2, .int .i64 u3, .int .i64 u4, .int .i64 u5, .int .i64 u6, .int .i64 u7] 23))
    replace C1 := Lib.hid ((C1.out.push (.cells #[.int .u32 b0, .int .u8 b1, .int .i64 b2, .int .u32 b3, .int .u32 b4, .int .u32 b5, .int .u32 b6] 27)).push (.cells #[.bool u0, .int .i64 u1, .int .i64 u2, .int .i64 u3, .int .i64 u4, .int .i64 u5, .int .i64 u6, .int .i64 u7] 23))
    replace C2 := Lib.hid ((C2.out.push (.cells #[.int .u32 b0, .int .u8 b1, .int .i64 b2, .int .u32 b3, .int .u32 b4, .int .u32 b5, .int .u32 b6] 27)).push (.cells #[.bool u0, .int .i64 u1, .int .i64 u2, .int .i64 u3, .int .i64 u4, .int .i64 u5, .int .i64 u6, .int .i64 u7] 23))
    obtain ⟨V, hV⟩ : ∃ V, V = (v2.alloc (.cells #[.int .u32 b0, .int .u8 b1, .int .i64 b2, .int .u32 b3, .int .u32 b4, .int .u32 b5, .int .u32 b6] 27)).alloc (.cells #[.bool u0, .int .i64 u1, .int .i64 u2, .int .i64 u3, .int .i64 u4, .int .i64 u5, .int .i64 u6, .int .i64 u7] 23) := ⟨_, rfl⟩
    rw [← hV] at S S2 U C1 C2 C3 C4
    have HV := Lib.hid hV
    clear hV
    go_upto_region 7 with fail
    rw [← HV.out]
    have hsV : g3 + 1 < V.heap.size := C2.out.lt
    clear HV
    obtain ⟨g7, hg7⟩ : ∃ g, g = v2.heap.size := ⟨_, rfl⟩
    rw [← hg7] at C3 C4 hg4 ⊢
    clear hg7
    by_cases hm3 : (k : Int) % 3 = 2
    · have hmod : (((k : Int) % 3) == 2) = true := by rw [beq_iff_eq]; omega
      have s0 := S.out.at 0 _ rfl
      have s1 := S.out.at 1 _ rfl
      have s2 := S.out.at 2 _ rfl
      have s3 := S.out.at 3 _ rfl
      have s4 := S.out.at 4 _ rfl
      have s5 := S.out.at 5 _ rfl
      have s6 := S.out.at 6 _ rfl
      have s7 := S.out.at 7 _ rfl
      have r0 := S2.out.at 0 _ rfl
      have r1 := S2.out.at 1 _ rfl
      have r2 := S2.out.at 2 _ rfl
      have r3 := S2.out.at 3 _ rfl
      have r4 := S2.out.at 4 _ rfl
      have r5 := S2.out.at 5 _ rfl
      have r6 := S2.out.at 6 _ rfl
      have r7 := S2.out.at 7 _ rfl
      have d0 := C1.out.at 0 _ rfl
      have d1 := C1.out.at 1 _ rfl
      have d2 := C1.out.at 2 _ rfl
      have d3 := C1.out.at 3 _ rfl
      have d4 := C1.out.at 4 _ rfl
      have d5 := C1.out.at 5 _ rfl
      have d6 := C1.out.at 6 _ rfl
      have f0 := C2.out.at 0 _ rfl
      have f1 := C2.out.at 1 _ rfl
      have f2 := C2.out.at 2 _ rfl
      have f3 := C2.out.at 3 _ rfl
      have f4 := C2.out.at 4 _ rfl
      have f5 := C2.out.at 5 _ rfl
      have f6 := C2.out.at 6 _ rfl
      have f7 := C2.out.at 7 _ rfl
      have h0 := C3.out.at 0 _ rfl
      have h1 := C3.out.at 1 _ rfl
      have h2 := C3.out.at 2 _ rfl
      have h3 := C3.out.at 3 _ rfl
      have h4 := C3.out.at 4 _ rfl
      have h5 := C3.out.at 5 _ rfl
      have h6 := C3.out.at 6 _ rfl
      have m0 := C4.out.at 0 _ rfl
      have m1 := C4.out.at 1 _ rfl
      have m2 := C4.out.at 2 _ rfl
      have m3 := C4.out.at 3 _ rfl
      have m4 := C4.out.at 4 _ rfl
      have m5 := C4.out.at 5 _ rfl
      have m6 := C4.out.at 6 _ rfl
      have m7 := C4.out.at 7 _ rfl
      have z1 := S.out.frozen
      have z2 := S2.out.frozen
      go_upto_region 12 with fail
      clear s0 s1 s2 s3 s4 s5 s6 s7 r0 r1 r2 r3 r4 r5 r6 r7 d0 d1 d2 d3 d4 d5 d6 f0 f1 f2 f3 f4 f5 f6 f7 h0 h1 h2 h3 h4 h5 h6 m0 m1 m2 m3 m4 m5 m6 m7 z1 z2 hmod C1 C2 C3 C4 hsV
      have S' := Lib.hid (Blk.farRow (g' := w.heap.size + 1) (by omega) [.bool u0, .int .i64 u1, .int .i64 u2, .int .i64 u3, .int .i64 u4, .int .i64 u5, .int .i64 u6, .int .i64 u7] _ 0 (S.out.setRow [.bool u0, .int .i64 u1, .int .i64 u2, .int .i64 u3, .int .i64 u4, .int .i64 u5, .int .i64 u6, .int .i64 u7] rfl))
      have S2' := Lib.hid (Blk.setRow (Blk.farRow (g' := w.heap.size) (by omega) [.bool u0, .int .i64 u1, .int .i64 u2, .int .i64 u3, .int .i64 u4, .int .i64 u5, .int .i64 u6, .int .i64 u7] _ 0 S2.out) [.bool u0, .int .i64 u1, .int .i64 u2, .int .i64 u3, .int .i64 u4, .int .i64 u5, .int .i64 u6, .int .i64 u7] rfl)
      have U' : Hid (Bel w _) := Lib.hid (below_setRow (g := w.heap.size + 1) (by omega) [.bool u0, .int .i64 u1, .int .i64 u2, .int .i64 u3, .int .i64 u4, .int .i64 u5, .int .i64 u6, .int .i64 u7] _ 0 (below_setRow (g := w.heap.size) (Nat.le_refl _) [.bool u0, .int .i64 u1, .int .i64 u2, .int .i64 u3, .int .i64 u4, .int .i64 u5, .int .i64 u6, .int .i64 u7] _ 0 U.out))
      obtain ⟨V9, hV9⟩ : ∃ Y, Y = setRow (w.heap.size + 1) (setRow w.heap.size V 0 [.bool u0, .int .i64 u1, .int .i64 u2, .int .i64 u3, .int .i64 u4, .int .i64 u5, .int .i64 u6, .int .i64 u7]) 0 [.bool u0, .int .i64 u1, .int .i64 u2, .int .i64 u3, .int .i64 u4, .int .i64 u5, .int .i64 u6, .int .i64 u7] := ⟨_, rfl⟩
      rw [← hV9] at S' S2' U'
      simp only [setRow, Nat.zero_add, Nat.reduceAdd] at hV9
      rw [← hV9]
      clear hV9 S S2 U
      have S := S'
      have S2 := S2'
      have U := U'
      clear S' S2' U'
      have k3 := fun W => Arrive_any u0 u1 u2 u3 u4 u5 u6 u7 W ps pa pt
      have k4 := fun W => rArrive_any u0 u1 u2 u3 u4 u5 u6 u7 W ps pa pt
      generalize Rep.arrive ⟨u0, u1, u2, u3, u4, u5, u6, u7⟩ ps pa pt = R at *
      obtain ⟨y0, y1, y2, y3, y4, y5, y6, y7⟩ := R
      simp only [Rep.St.row] at k3 k4
      have K3 := Lib.hid k3
      have K4 := Lib.hid k4
      clear k3 k4
      have s0 : V9.cell? ⟨w.heap.size, 0, none⟩ = some (.bool u0) := S.out.at 0 _ rfl
      have s1 : V9.cell? ⟨w.heap.size, 1, none⟩ = some (.int .i64 u1) := S.out.at 1 _ rfl
      have s2 : V9.cell? ⟨w.heap.size, 2, none⟩ = some (.int .i64 u2) := S.out.at 2 _ rfl
      have s3 : V9.cell? ⟨w.heap.size, 3, none⟩ = some (.int .i64 u3) := S.out.at 3 _ rfl
      have s4 : V9.cell? ⟨w.heap.size, 4, none⟩ = some (.int .i64 u4) := S.out.at 4 _ rfl
      have s5 : V9.cell? ⟨w.heap.size, 5, none⟩ = some (.int .i64 u5) := S.out.at 5 _ rfl
      have s6 : V9.cell? ⟨w.heap.size, 6, none⟩ = some (.int .i64 u6) := S.out.at 6 _ rfl
      have s7 : V9.cell? ⟨w.heap.size, 7, none⟩ = some (.int .i64 u7) := S.out.at 7 _ rfl
      have q0 : V9.cell? ⟨b, off + k * 3, none⟩ = some (.int .i64 ps) := (U.out.cell (p := ⟨b, off + k * 3, none⟩) hbB).trans Q0.out
      have q1 : V9.cell? ⟨b, off + k * 3 + 1, none⟩ = some (.int .i64 pa) := (U.out.cell (p := ⟨b, off + k * 3 + 1, none⟩) hbB).trans Q1.out
      have q2 : V9.cell? ⟨b, off + k * 3 + 2, none⟩ = some (.int .i64 pt) := (U.out.cell (p := ⟨b, off + k * 3 + 2, none⟩) hbB).trans Q2.out
      go_still_tail 16, (by kernel_rfl)
      change wpList _ _ _ _ _ V9.drew
      go_wp2_with fail
      clear s0 s1 s2 s3 s4 s5 s6 s7 q0 q1 q2
      refine (K3.out _).mono ?_
      rintro e va ⟨rfl, hb⟩
      replace S := Lib.hid (S.out.drew.later hb)
      replace S2 := Lib.hid (S2.out.drew.later hb)
      replace U := Lib.hid (U.out.drew.later hb)
      clear hb
      have s0 := S.out.at 0 _ rfl
      have s1 := S.out.at 1 _ rfl
      have s2 := S.out.at 2 _ rfl
      have s3 := S.out.at 3 _ rfl
      have s4 := S.out.at 4 _ rfl
      have s5 := S.out.at 5 _ rfl
      have s6 := S.out.at 6 _ rfl
      have s7 := S.out.at 7 _ rfl
      have z := S.out.frozen
      go_upto_region 13 with fail
      clear s0 s1 s2 s3 s4 s5 s6 s7 z
      have S' := Lib.hid (S.out.setRow [.bool y0, .int .i64 y1, .int .i64 y2, .int .i64 y3, .int .i64 y4, .int .i64 y5, .int .i64 y6, .int .i64 y7] rfl)
      have S2' := Lib.hid (Blk.farRow (g' := w.heap.size) (by omega) [.bool y0, .int .i64 y1, .int .i64 y2, .int .i64 y3, .int .i64 y4, .int .i64 y5, .int .i64 y6, .int .i64 y7] _ 0 S2.out)
      have U' : Hid (Bel w _) := Lib.hid (below_setRow (g := w.heap.size) (Nat.le_refl _) [.bool y0, .int .i64 y1, .int .i64 y2, .int .i64 y3, .int .i64 y4, .int .i64 y5, .int .i64 y6, .int .i64 y7] _ 0 U.out)
      obtain ⟨VB, hVB⟩ : ∃ Y, Y = setRow w.heap.size va 0 [.bool y0, .int .i64 y1, .int .i64 y2, .int .i64 y3, .int .i64 y4, .int .i64 y5, .int .i64 y6, .int .i64 y7] := ⟨_, rfl⟩
      rw [← hVB] at S' S2' U'
      simp only [setRow, Nat.zero_add, Nat.reduceAdd] at hVB
      rw [← hVB]
      clear hVB S S2 U
      have S := S'
      have S2 := S2'
      have U := U'
      clear S' S2' U'
      have s0 : VB.cell? ⟨w.heap.size + 1, 0, none⟩ = some (.bool u0) := S2.out.at 0 _ rfl
      have s1 : VB.cell? ⟨w.heap.size + 1, 1, none⟩ = some (.int .i64 u1) := S2.out.at 1 _ rfl
      have s2 : VB.cell? ⟨w.heap.size + 1, 2, none⟩ = some (.int .i64 u2) := S2.out.at 2 _ rfl
      have s3 : VB.cell? ⟨w.heap.size + 1, 3, none⟩ = some (.int .i64 u3) := S2.out.at 3 _ rfl
      have s4 : VB.cell? ⟨w.heap.size + 1, 4, none⟩ = some (.int .i64 u4) := S2.out.at 4 _ rfl
      have s5 : VB.cell? ⟨w.heap.size + 1, 5, none⟩ = some (.int .i64 u5) := S2.out.at 5 _ rfl
      have s6 : VB.cell? ⟨w.heap.size + 1, 6, none⟩ = some (.int .i64 u6) := S2.out.at 6 _ rfl
      have s7 : VB.cell? ⟨w.heap.size + 1, 7, none⟩ = some (.int .i64 u7) := S2.out.at 7 _ rfl
      have q0 : VB.cell? ⟨b, off + k * 3, none⟩ = some (.int .i64 ps) := (U.out.cell (p := ⟨b, off + k * 3, none⟩) hbB).trans Q0.out
      have q1 : VB.cell? ⟨b, off + k * 3 + 1, none⟩ = some (.int .i64 pa) := (U.out.cell (p := ⟨b, off + k * 3 + 1, none⟩) hbB).trans Q1.out
      have q2 : VB.cell? ⟨b, off + k * 3 + 2, none⟩ = some (.int .i64 pt) := (U.out.cell (p := ⟨b, off + k * 3 + 2, none⟩) hbB).trans Q2.out
      go_still_tail 16, (by kernel_rfl)
      change wpList _ _ _ _ _ VB.drew
      go_wp2_with fail
      clear s0 s1 s2 s3 s4 s5 s6 s7 q0 q1 q2
      refine (K4.out _).mono ?_
      rintro e vb ⟨rfl, hb⟩
      replace S := Lib.hid (S.out.drew.later hb)
      replace S2 := Lib.hid (S2.out.drew.later hb)
      replace U := Lib.hid (U.out.drew.later hb)
      clear hb
      have s0 := S2.out.at 0 _ rfl
      have s1 := S2.out.at 1 _ rfl
      have s2 := S2.out.at 2 _ rfl
      have s3 := S2.out.at 3 _ rfl
      have s4 := S2.out.at 4 _ rfl
      have s5 := S2.out.at 5 _ rfl
      have s6 := S2.out.at 6 _ rfl
      have s7 := S2.out.at 7 _ rfl
      have z := S2.out.frozen
      have r0 := S.out.at 0 _ rfl
      have r1 := S.out.at 1 _ rfl
      have r2 := S.out.at 2 _ rfl
      have r3 := S.out.at 3 _ rfl
      have r4 := S.out.at 4 _ rfl
      have r5 := S.out.at 5 _ rfl
      have r6 := S.out.at 6 _ rfl
      have r7 := S.out.at 7 _ rfl
      go_wp2_with fail
      have S' := Lib.hid (Blk.farRow (g' := w.heap.size + 1) (by omega) [.bool y0, .int .i64 y1, .int .i64 y2, .int .i64 y3, .int .i64 y4, .int .i64 y5, .int .i64 y6, .int .i64 y7] _ 0 S.out)
      have S2' := Lib.hid (S2.out.setRow [.bool y0, .int .i64 y1, .int .i64 y2, .int .i64 y3, .int .i64 y4, .int .i64 y5, .int .i64 y6, .int .i64 y7] rfl)
      have U' : Hid (Bel w _) := Lib.hid (below_setRow (g := w.heap.size + 1) (by omega) [.bool y0, .int .i64 y1, .int .i64 y2, .int .i64 y3, .int .i64 y4, .int .i64 y5, .int .i64 y6, .int .i64 y7] _ 0 U.out)
      simp only [setRow, Nat.zero_add, Nat.reduceAdd] at S' S2' U'
      go_roundg (gk - 1)
      case measure => omega
      case rel => exact ⟨k + 1, y0, y1, y2, y3, y4, y5, y6, y7, by omega, by go_num, S', S2', U'⟩
    · have hmod : (((k : Int) % 3) == 2) = false := by rw [beq_eq_false_iff_ne]; omega
      have s0 := S.out.at 0 _ rfl
      have s1 := S.out.at 1 _ rfl
      have s2 := S.out.at 2 _ rfl
      have s3 := S.out.at 3 _ rfl
      have s4 := S.out.at 4 _ rfl
      have s5 := S.out.at 5 _ rfl
      have s6 := S.out.at 6 _ rfl
      have s7 := S.out.at 7 _ rfl
      have r0 := S2.out.at 0 _ rfl
      have r1 := S2.out.at 1 _ rfl
      have r2 := S2.out.at 2 _ rfl
      have r3 := S2.out.at 3 _ rfl
      have r4 := S2.out.at 4 _ rfl
      have r5 := S2.out.at 5 _ rfl
      have r6 := S2.out.at 6 _ rfl
      have r7 := S2.out.at 7 _ rfl
      have d0 := C1.out.at 0 _ rfl
      have d1 := C1.out.at 1 _ rfl
      have d2 := C1.out.at 2 _ rfl
      have d3 := C1.out.at 3 _ rfl
      have d4 := C1.out.at 4 _ rfl
      have d5 := C1.out.at 5 _ rfl
      have d6 := C1.out.at 6 _ rfl
      have f0 := C2.out.at 0 _ rfl
      have f1 := C2.out.at 1 _ rfl
      have f2 := C2.out.at 2 _ rfl
      have f3 := C2.out.at 3 _ rfl
      have f4 := C2.out.at 4 _ rfl
      have f5 := C2.out.at 5 _ rfl
      have f6 := C2.out.at 6 _ rfl
      have f7 := C2.out.at 7 _ rfl
      have h0 := C3.out.at 0 _ rfl
      have h1 := C3.out.at 1 _ rfl
      have h2 := C3.out.at 2 _ rfl
      have h3 := C3.out.at 3 _ rfl
      have h4 := C3.out.at 4 _ rfl
      have h5 := C3.out.at 5 _ rfl
      have h6 := C3.out.at 6 _ rfl
      have m0 := C4.out.at 0 _ rfl
      have m1 := C4.out.at 1 _ rfl
      have m2 := C4.out.at 2 _ rfl
      have m3 := C4.out.at 3 _ rfl
      have m4 := C4.out.at 4 _ rfl
      have m5 := C4.out.at 5 _ rfl
      have m6 := C4.out.at 6 _ rfl
      have m7 := C4.out.at 7 _ rfl
      have z1 := S.out.frozen
      have z2 := S2.out.frozen
      go_upto_region 12 with fail
      clear s0 s1 s2 s3 s4 s5 s6 s7 r0 r1 r2 r3 r4 r5 r6 r7 d0 d1 d2 d3 d4 d5 d6 f0 f1 f2 f3 f4 f5 f6 f7 h0 h1 h2 h3 h4 h5 h6 m0 m1 m2 m3 m4 m5 m6 m7 z1 z2 hmod C1 C2 C3 C4 hsV
      obtain ⟨V9, hV9⟩ : ∃ Y, Y = V := ⟨_, rfl⟩
      rw [← hV9] at S S2 U ⊢
      clear hV9
      have k3 := fun W => Arrive_any x0 x1 x2 x3 x4 x5 x6 x7 W ps pa pt
      have k4 := fun W => rArrive_any x0 x1 x2 x3 x4 x5 x6 x7 W ps pa pt
      generalize Rep.arrive ⟨x0, x1, x2, x3, x4, x5, x6, x7⟩ ps pa pt = R at *
      obtain ⟨y0, y1, y2, y3, y4, y5, y6, y7⟩ := R
      simp only [Rep.St.row] at k3 k4
      have K3 := Lib.hid k3
      have K4 := Lib.hid k4
      clear k3 k4
      have s0 : V9.cell? ⟨w.heap.size, 0, none⟩ = some (.bool x0) := S.out.at 0 _ rfl
      have s1 : V9.cell? ⟨w.heap.size, 1, none⟩ = some (.int .i64 x1) := S.out.at 1 _ rfl
      have s2 : V9.cell? ⟨w.heap.size, 2, none⟩ = some (.int .i64 x2) := S.out.at 2 _ rfl
      have s3 : V9.cell? ⟨w.heap.size, 3, none⟩ = some (.int .i64 x3) := S.out.at 3 _ rfl
      have s4 : V9.cell? ⟨w.heap.size, 4, none⟩ = some (.int .i64 x4) := S.out.at 4 _ rfl
      have s5 : V9.cell? ⟨w.heap.size, 5, none⟩ = some (.int .i64 x5) := S.out.at 5 _ rfl
      have s6 : V9.cell? ⟨w.heap.size, 6, none⟩ = some (.int .i64 x6) := S.out.at 6 _ rfl
      have s7 : V9.cell? ⟨w.heap.size, 7, none⟩ = some (.int .i64 x7) := S.out.at 7 _ rfl
      have q0 : V9.cell? ⟨b, off + k * 3, none⟩ = some (.int .i64 ps) := (U.out.cell (p := ⟨b, off + k * 3, none⟩) hbB).trans Q0.out
      have q1 : V9.cell? ⟨b, off + k * 3 + 1, none⟩ = some (.int .i64 pa) := (U.out.cell (p := ⟨b, off + k * 3 + 1, none⟩) hbB).trans Q1.out
      have q2 : V9.cell? ⟨b, off + k * 3 + 2, none⟩ = some (.int .i64 pt) := (U.out.cell (p := ⟨b, off + k * 3 + 2, none⟩) hbB).trans Q2.out
      go_still_tail 16, (by kernel_rfl)
      change wpList _ _ _ _ _ V9.drew
      go_wp2_with fail
      clear s0 s1 s2 s3 s4 s5 s6 s7 q0 q1 q2
      refine (K3.out _).mono ?_
      rintro e va ⟨rfl, hb⟩
      replace S := Lib.hid (S.out.drew.later hb)
      replace S2 := Lib.hid (S2.out.drew.later hb)
      replace U := Lib.hid (U.out.drew.later hb)
      clear hb
      have s0 := S.out.at 0 _ rfl
      have s1 := S.out.at 1 _ rfl
      have s2 := S.out.at 2 _ rfl
      have s3 := S.out.at 3 _ rfl
      have s4 := S.out.at 4 _ rfl
      have s5 := S.out.at 5 _ rfl
      have s6 := S.out.at 6 _ rfl
      have s7 := S.out.at 7 _ rfl
      have z := S.out.frozen
      go_upto_region 13 with fail
      clear s0 s1 s2 s3 s4 s5 s6 s7 z
      have S' := Lib.hid (S.out.setRow [.bool y0, .int .i64 y1, .int .i64 y2, .int .i64 y3, .int .i64 y4, .int .i64 y5, .int .i64 y6, .int .i64 y7] rfl)
      have S2' := Lib.hid (Blk.farRow (g' := w.heap.size) (by omega) [.bool y0, .int .i64 y1, .int .i64 y2, .int .i64 y3, .int .i64 y4, .int .i64 y5, .int .i64 y6, .int .i64 y7] _ 0 S2.out)
      have U' : Hid (Bel w _) := Lib.hid (below_setRow (g := w.heap.size) (Nat.le_refl _) [.bool y0, .int .i64 y1, .int .i64 y2, .int .i64 y3, .int .i64 y4, .int .i64 y5, .int .i64 y6, .int .i64 y7] _ 0 U.out)
      obtain ⟨VB, hVB⟩ : ∃ Y, Y = setRow w.heap.size va 0 [.bool y0, .int .i64 y1, .int .i64 y2, .int .i64 y3, .int .i64 y4, .int .i64 y5, .int .i64 y6, .int .i64 y7] := ⟨_, rfl⟩
      rw [← hVB] at S' S2' U'
      simp only [setRow, Nat.zero_add, Nat.reduceAdd] at hVB
      rw [← hVB]
      clear hVB S S2 U
      have S := S'
      have S2 := S2'
      have U := U'
      clear S' S2' U'
      have s0 : VB.cell? ⟨w.heap.size + 1, 0, none⟩ = some (.bool x0) := S2.out.at 0 _ rfl
      have s1 : VB.cell? ⟨w.heap.size + 1, 1, none⟩ = some (.int .i64 x1) := S2.out.at 1 _ rfl
      have s2 : VB.cell? ⟨w.heap.size + 1, 2, none⟩ = some (.int .i64 x2) := S2.out.at 2 _ rfl
      have s3 : VB.cell? ⟨w.heap.size + 1, 3, none⟩ = some (.int .i64 x3) := S2.out.at 3 _ rfl
      have s4 : VB.cell? ⟨w.heap.size + 1, 4, none⟩ = some (.int .i64 x4) := S2.out.at 4 _ rfl
      have s5 : VB.cell? ⟨w.heap.size + 1, 5, none⟩ = some (.int .i64 x5) := S2.out.at 5 _ rfl
      have s6 : VB.cell? ⟨w.heap.size + 1, 6, none⟩ = some (.int .i64 x6) := S2.out.at 6 _ rfl
      have s7 : VB.cell? ⟨w.heap.size + 1, 7, none⟩ = some (.int .i64 x7) := S2.out.at 7 _ rfl
      have q0 : VB.cell? ⟨b, off + k * 3, none⟩ = some (.int .i64 ps) := (U.out.cell (p := ⟨b, off + k * 3, none⟩) hbB).trans Q0.out
      have q1 : VB.cell? ⟨b, off + k * 3 + 1, none⟩ = some (.int .i64 pa) := (U.out.cell (p := ⟨b, off + k * 3 + 1, none⟩) hbB).trans Q1.out
      have q2 : VB.cell? ⟨b, off + k * 3 + 2, none⟩ = some (.int .i64 pt) := (U.out.cell (p := ⟨b, off + k * 3 + 2, none⟩) hbB).trans Q2.out
      go_still_tail 16, (by kernel_rfl)
      change wpList _ _ _ _ _ VB.drew
      go_wp2_with fail
      clear s0 s1 s2 s3 s4 s5 s6 s7 q0 q1 q2
      refine (K4.out _).mono ?_
      rintro e vb ⟨rfl, hb⟩
      replace S := Lib.hid (S.out.drew.later hb)
      replace S2 := Lib.hid (S2.out.drew.later hb)
      replace U := Lib.hid (U.out.drew.later hb)
      clear hb
      have s0 := S2.out.at 0 _ rfl
      have s1 := S2.out.at 1 _ rfl
      have s2 := S2.out.at 2 _ rfl
      have s3 := S2.out.at 3 _ rfl
      have s4 := S2.out.at 4 _ rfl
      have s5 := S2.out.at 5 _ rfl
      have s6 := S2.out.at 6 _ rfl
      have s7 := S2.out.at 7 _ rfl
      have z := S2.out.frozen
      have r0 := S.out.at 0 _ rfl
      have r1 := S.out.at 1 _ rfl
      have r2 := S.out.at 2 _ rfl
      have r3 := S.out.at 3 _ rfl
      have r4 := S.out.at 4 _ rfl
      have r5 := S.out.at 5 _ rfl
      have r6 := S.out.at 6 _ rfl
      have r7 := S.out.at 7 _ rfl
      go_wp2_with fail
      have S' := Lib.hid (Blk.farRow (g' := w.heap.size + 1) (by omega) [.bool y0, .int .i64 y1, .int .i64 y2, .int .i64 y3, .int .i64 y4, .int .i64 y5, .int .i64 y6, .int .i64 y7] _ 0 S.out)
      have S2' := Lib.hid (S2.out.setRow [.bool y0, .int .i64 y1, .int .i64 y2, .int .i64 y3, .int .i64 y4, .int .i64 y5, .int .i64 y6, .int .i64 y7] rfl)
      have U' : Hid (Bel w _) := Lib.hid (below_setRow (g := w.heap.size + 1) (by omega) [.bool y0, .int .i64 y1, .int .i64 y2, .int .i64 y3, .int .i64 y4, .int .i64 y5, .int .i64 y6, .int .i64 y7] _ 0 U.out)
      simp only [setRow, Nat.zero_add, Nat.reduceAdd] at S' S2' U'
      go_roundg (gk - 1)
      case measure => omega
      case rel => exact ⟨k + 1, y0, y1, y2, y3, y4, y5, y6, y7, by omega, by go_num, S', S2', U'⟩
theorem walk (w : World) (a0 : Bool) (a1 a2 a3 a4 a5 a6 a7 : Int) (A : Option Addr) (l : List TPk) (cap : Nat) (hl : l.length ≤ cap) (hm : cap ≤ maxLen) (hR : RowsAt w w.heap.size 3 TPk.row A l) (so : Int) (w1 : (Lit.int .u32 so).wf = true) (la : Int) (w2 : (Lit.int .u32 la).wf = true) (de : Int) (w3 : (Lit.int .u32 de).wf = true) :
    Calls Try.prog 3 #[.agg #[.bool a0, .int .i64 a1, .int .i64 a2, .int .i64 a3, .int .i64 a4, .int .i64 a5, .int .i64 a6, .int .i64 a7], .slice A l.length cap, .int .u32 so, .int .u32 la, .int .u32 de] w fun e w' => e = .returned (.bool true) ∧ Below w.heap.size w w' :=
  main w a0 a1 a2 a3 a4 a5 a6 a7 A l cap hR (Nat.le_trans hl hm) so la de
end Go.Proofs.Ythmcbmjjngolmaa.reportArrives

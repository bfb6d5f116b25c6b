/- Layer 29, EventsFrames: for every key, time stamp and numbers the law returns true. -/
import Derived.Test.YtangooegialmcaaEvLives
import Derived.Test.YtangooegialmcaaLate
import Derived.Test.YtangooegialmcaaRes
namespace Go.Proofs.Ytangooegialmcaa.eventsFrames
open Go.RowKit
set_option linter.unusedVariables false
set_option linter.unusedSimpArgs false
attribute [local go_sem ↓] run_min_plain run_max_plain
theorem next_on (c v t L n : Int) (v0 : v ≤ 63) (l0 : 0 ≤ L) (l1 : L ≤ 65535) (n0 : 1 ≤ n) (n1 : n ≤ 8000) : Ev.next ⟨true, c, v, t, L, 0⟩ n = ⟨⟨true, c, v, t, min (L + n) 65535, 0⟩, ⟨t, L == 0, ⟨c, false, v, min (L + n) 65535⟩⟩, true, 0⟩ := by
  unfold Ev.next
  rw [if_neg (by simp [Ev.Snd.valid, v0, l0, l1]), if_neg (by omega), if_pos rfl]
/-- the sender behind the release and j packets -/
def st (c v t L : Int) (j : Nat) : Ev.Snd := if 3 ≤ j then Ev.Snd.zero else ⟨false, c, v, t, L, 3 - (j : Int)⟩
theorem next_end (c v t L n : Int) (v0 : v ≤ 63) (l0 : 0 ≤ L) (l1 : L ≤ 65535) (n0 : 1 ≤ n) (n1 : n ≤ 8000) (j : Nat) (hj : j < 3) : Ev.next (st c v t L j) n = ⟨st c v t L (j + 1), ⟨t, false, ⟨c, true, v, L⟩⟩, true, 0⟩ := by
  have hst : st c v t L j = ⟨false, c, v, t, L, 3 - (j : Int)⟩ := by unfold st; rw [if_neg (by omega)]
  rw [hst]
  unfold Ev.next
  have h3 : (3 - (j : Int) = 0) = False := by simp; omega
  have hvd : Ev.Snd.valid ⟨false, c, v, t, L, 3 - (j : Int)⟩ = true := by
    simp [Ev.Snd.valid, v0, l0, l1]; omega
  rw [hvd, if_neg (by simp), if_neg (by omega), if_neg (by simp), if_neg (by simp; omega)]
  congr 1
  unfold st
  by_cases h : j = 2
  · subst h; rfl
  · rw [if_neg (show ¬3 - (j : Int) = 1 by omega), if_neg (show ¬3 ≤ j + 1 by omega)]
    have e : 3 - (j : Int) - 1 = 3 - ((j + 1 : Nat) : Int) := by omega
    rw [e]
theorem release_on (c v t L : Int) (v0 : v ≤ 63) (l0 : 0 ≤ L) (l1 : L ≤ 65535) : Ev.release ⟨true, c, v, t, L, 0⟩ = (st c v t L 0, 0) := by
  unfold Ev.release
  rw [if_neg (by simp [Ev.Snd.valid, v0, l0, l1]), if_neg (by simp)]
  rfl
set_option maxRecDepth 100000 in
set_option maxHeartbeats 3200000 in
theorem main (w : World) (c vol t fr sa : Int) (v0 : 0 ≤ vol) (v1 : vol ≤ 255) (f0 : 0 ≤ fr) (f1 : fr ≤ 65535) (s0 : 0 ≤ sa) (s1 : sa ≤ 65535) :
    Calls Try.prog 7 #[.int .u8 c, .int .u8 vol, .int .u32 t, .int .u16 fr, .int .u16 sa] w fun e w' => e = .returned (.bool true) ∧ Below w.heap.size w w' := by
  obtain ⟨v, hv⟩ : ∃ v, v = vol % 64 := ⟨_, rfl⟩
  obtain ⟨n, hn⟩ : ∃ n : Nat, (n : Int) = 1 + fr % 100 := ⟨(1 + fr % 100).toNat, by omega⟩
  obtain ⟨sz, hsz⟩ : ∃ sz, sz = 1 + sa % 600 := ⟨_, rfl⟩
  have hv0 : 0 ≤ v := by omega
  have hv1 : v ≤ 63 := by omega
  have hn1 : (1 : Int) ≤ (n : Int) := by omega
  have hn2 : (n : Int) ≤ 100 := by omega
  have hs1 : 1 ≤ sz := by omega
  have hs2 : sz ≤ 600 := by omega
  have HV := Lib.hid hv
  have HN := Lib.hid hn
  have HS := Lib.hid hsz
  clear hv hn hsz
  have k1 := fun W => Press_any false 0 0 0 0 0 c v t W
  rw [show Ev.press ⟨false, 0, 0, 0, 0, 0⟩ c v t = (⟨true, c, v, t, 0, 0⟩, 0) from by unfold Ev.press; rw [if_neg (by decide), if_neg (by decide), if_neg (by omega)]] at k1
  simp only [Ev.Snd.row] at k1
  replace k1 := Lib.hid k1
  go_enter Try.func7, Try.ntmps7
  have U := Lib.hid (Bel.refl w)
  go_wp2_with fail
  rw [← HV.out]
  refine (k1.out _).mono ?_
  rintro e w1 ⟨rfl, hb1⟩
  replace U := Lib.hid (U.out.later hb1)
  clear hb1
  have U1 := U
  replace U := Lib.hid (U.out.push (.cells #[.bool true, .int .u8 c, .int .u8 v, .int .u32 t, .int .i64 0, .int .i64 0] 49))
  have B0 := Lib.hid (Blk.new w1 49 #[.bool true, .int .u8 c, .int .u8 v, .int .u32 t, .int .i64 0, .int .i64 0])
  obtain ⟨W, hW⟩ : ∃ W, W = w1.alloc (.cells #[.bool true, .int .u8 c, .int .u8 v, .int .u32 t, .int .i64 0, .int .i64 0] 49) := ⟨_, rfl⟩
  rw [← hW] at B0 U
  obtain ⟨g, hg⟩ : ∃ g, g = w1.heap.size := ⟨_, rfl⟩
  rw [← hg] at B0
  have HW := Lib.hid hW
  have HG := Lib.hid hg
  have HGW : Hid (w.heap.size ≤ g) := Lib.hid (by rw [hg]; exact U1.out.size)
  clear hW hg U1
  go_wp2_with fail
  rw [← HW.out, ← HN.out, ← HS.out, ← HG.out]
  clear HW HN HS HG
  go_loopg [15] (n + 1) (fun gk i wr => ∃ (k : Nat), gk + k = n + 1 ∧ k ≤ n ∧ i = .int .i64 (k + 1) ∧ Hid (Blk wr g 49 #[.bool true, .int .u8 c, .int .u8 v, .int .u32 t, .int .i64 (min ((k : Int) * sz) 65535), .int .i64 0]) ∧ Hid (Bel w wr))
  case atStart =>
    refine ⟨0, rfl, Nat.zero_le _, rfl, ?_, U⟩
    rw [show min (((0 : Nat) : Int) * sz) 65535 = 0 by rw [show ((0 : Nat) : Int) * sz = 0 by simp]; rfl]
    exact B0
  case round =>
    obtain ⟨k, hk, hkn, rfl, B, U⟩ := hrel
    clear B0
    obtain ⟨p0, p1⟩ : 0 ≤ (k : Int) * sz ∧ (k : Int) * sz ≤ 60000 := ⟨Int.mul_nonneg (by omega) (by omega), by
      have := Int.mul_le_mul (show (k : Int) ≤ 100 by omega) hs2 (by omega) (by omega); omega⟩
    by_cases hlt : k < n
    · have hmul : ((k : Int) + 1) * sz = (k : Int) * sz + sz := by rw [Int.add_mul, Int.one_mul]
      have hmn : min (min ((k : Int) * sz) 65535 + sz) 65535 = min (((k : Int) + 1) * sz) 65535 := by rw [hmul]; omega
      have hz1 : 0 ≤ ((k : Int) + 1) * sz := by rw [hmul]; omega
      have hz2 : ((k : Int) + 1) * sz ≤ 60600 := by rw [hmul]; omega
      obtain ⟨mk, hmk⟩ : ∃ mk, mk = ((k : Int) + 1 == 1) := ⟨_, rfl⟩
      have hmk2 : (min ((k : Int) * sz) 65535 == 0) = mk := by
        rw [hmk]
        by_cases h0 : k = 0
        · subst h0; rw [show ((0 : Nat) : Int) * sz = 0 by simp]; rfl
        · have : 1 * 1 ≤ (k : Int) * sz := Int.mul_le_mul (by omega) hs1 (by omega) (by omega)
          rw [beq_eq_false_iff_ne.2 (by omega), beq_eq_false_iff_ne.2 (by omega)]
      have kn := fun W => Next_any true c v t (min ((k : Int) * sz) 65535) 0 sz W
      rw [next_on c v t _ sz hv1 (by omega) (by omega) hs1 (by omega), hmn, hmk2] at kn
      simp only [Ev.Snd.row] at kn
      replace kn := Lib.hid kn
      have HMK := Lib.hid hmk.symm
      clear hmk hmk2 hmn hmul
      obtain ⟨M, hM⟩ : ∃ M, M = ((k : Int) + 1) * sz := ⟨_, rfl⟩
      obtain ⟨M0, hM0⟩ : ∃ M0, M0 = min ((k : Int) * sz) 65535 := ⟨_, rfl⟩
      rw [← hM] at hz1 hz2 kn
      rw [← hM0] at B kn
      have HM := Lib.hid hM
      clear hM hM0 p0 p1
      have hk1 : (k : Int) + 1 ≤ (n : Int) := by omega
      have hk0 : (0 : Int) ≤ (k : Int) := by omega
      have c0 := B.out.at 0 _ rfl
      have c1 := B.out.at 1 _ rfl
      have c2 := B.out.at 2 _ rfl
      have c3 := B.out.at 3 _ rfl
      have c4 := B.out.at 4 _ rfl
      have c5 := B.out.at 5 _ rfl
      go_wp2_with fail
      refine (kn.out _).mono ?_
      rintro e w2 ⟨rfl, hb2⟩
      replace U := Lib.hid (U.out.later hb2)
      replace B := Lib.hid (B.out.later hb2)
      clear hb2 c0 c1 c2 c3 c4 c5
      have hgl := B.out.lt
      have c0 := B.out.at 0 _ rfl
      have c1 := B.out.at 1 _ rfl
      have c2 := B.out.at 2 _ rfl
      have c3 := B.out.at 3 _ rfl
      have c4 := B.out.at 4 _ rfl
      have c5 := B.out.at 5 _ rfl
      have z0 := B.out.frozen
      have hmk := HMK.out
      have hM := HM.out.symm
      have hvv := HV.out.symm
      have hg1 : g < w2.heap.size + 1 := by omega
      have hg2 : g < w2.heap.size + 1 + 1 := by omega
      go_wp2_with fail
      have eM : ((k + 1 : Nat) : Int) * sz = M := by rw [← hM]; simp
      go_roundg (gk - 1)
      case measure => omega
      case rel =>
        refine ⟨k + 1, by omega, by omega, by go_num, ?_, Lib.hid (Bel.push (Bel.push (Bel.push (below_setRow (by exact HGW.out) [.bool true, .int .u8 c, .int .u8 v, .int .u32 t, .int .i64 (min M 65535), .int .i64 0] _ 0 U.out) _) _) _)⟩
        rw [eM]
        exact Lib.hid (Blk.push (Blk.push (Blk.push (B.out.setRow [.bool true, .int .u8 c, .int .u8 v, .int .u32 t, .int .i64 (min M 65535), .int .i64 0] rfl) _) _) _)
    · obtain rfl : k = n := by omega
      have kr := fun W => Release_any true c v t (min ((k : Int) * sz) 65535) 0 W
      have kz := fun W => Next_any false 0 0 0 0 0 sz W
      rw [release_on c v t _ hv1 (by omega) (by omega)] at kr
      rw [show Ev.next ⟨false, 0, 0, 0, 0, 0⟩ sz = ⟨Ev.Snd.zero, Ev.Out.zero, false, 0⟩ from by unfold Ev.next; rw [if_neg (by decide), if_neg (by omega), if_neg (by decide), if_pos rfl]; rfl] at kz
      have ke := fun (j : Nat) (hj : j < 3) => next_end c v t (min ((k : Int) * sz) 65535) sz hv1 (by omega) (by omega) hs1 (by omega) j hj
      obtain ⟨M, hM⟩ : ∃ M, M = (k : Int) * sz := ⟨_, rfl⟩
      rw [← hM] at B kr ke p0 p1
      have HM := Lib.hid hM.symm
      clear hM
      simp only [Ev.Snd.row, st, if_neg (show ¬3 ≤ 0 by decide)] at kr
      simp only [Ev.Snd.row, Ev.Snd.zero, Ev.Out.zero, Ev.Tone.zero] at kz
      replace kr := Lib.hid kr
      replace kz := Lib.hid kz
      replace ke := Lib.hid ke
      have hk1 : (k : Int) < (k : Int) + 1 := by omega
      have c0 := B.out.at 0 _ rfl
      have c1 := B.out.at 1 _ rfl
      have c2 := B.out.at 2 _ rfl
      have c3 := B.out.at 3 _ rfl
      have c4 := B.out.at 4 _ rfl
      have c5 := B.out.at 5 _ rfl
      go_wp2_with fail
      refine (kr.out _).mono ?_
      rintro e w2 ⟨rfl, hb2⟩
      replace U := Lib.hid (U.out.later hb2)
      replace B := Lib.hid (B.out.later hb2)
      clear hb2 c0 c1 c2 c3 c4 c5
      have hgl := B.out.lt
      have c0 := B.out.at 0 _ rfl
      have c1 := B.out.at 1 _ rfl
      have c2 := B.out.at 2 _ rfl
      have c3 := B.out.at 3 _ rfl
      have c4 := B.out.at 4 _ rfl
      have c5 := B.out.at 5 _ rfl
      have z0 := B.out.frozen
      go_wp2_with fail
      clear c0 c1 c2 c3 c4 c5
      have b1 := B.out.setRow [.bool false, .int .u8 c, .int .u8 v, .int .u32 t, .int .i64 (min M 65535), .int .i64 3] rfl
      have bU : Bel w _ := below_setRow (by exact HGW.out) [.bool false, .int .u8 c, .int .u8 v, .int .u32 t, .int .i64 (min M 65535), .int .i64 3] _ 0 U.out
      go_loopg [21] 3 (fun gk i wr => ∃ (j : Nat) (x0 : Bool) (x1 x2 x3 x4 x5 : Int), gk + j = 3 ∧ i = .int .i64 j ∧ Hid ((⟨x0, x1, x2, x3, x4, x5⟩ : Ev.Snd) = st c v t (min M 65535) j) ∧ Hid (Blk wr g 49 #[.bool x0, .int .u8 x1, .int .u8 x2, .int .u32 x3, .int .i64 x4, .int .i64 x5]) ∧ Hid (Bel w wr))
      case atStart => exact ⟨0, false, c, v, t, min M 65535, 3, rfl, rfl, Lib.hid rfl, Lib.hid b1, Lib.hid bU⟩
      case round =>
        clear b1 bU B U z0 hgl
        obtain ⟨j, x0, x1, x2, x3, x4, x5, hj, rfl, HX, B, U⟩ := hrel
        have hj0 : (0 : Int) ≤ (j : Int) := by omega
        by_cases hlt : j < 3
        · have kj := fun W => Next_any x0 x1 x2 x3 x4 x5 sz W
          rw [HX.out, ke.out j hlt] at kj
          obtain ⟨y, hy⟩ : ∃ y, y = st c v t (min M 65535) (j + 1) := ⟨_, rfl⟩
          rw [← hy] at kj
          obtain ⟨y0, y1, y2, y3, y4, y5⟩ := y
          simp only [Ev.Snd.row] at kj
          replace kj := Lib.hid kj
          have HY := Lib.hid hy
          clear hy
          have hj3 : (j : Int) < 3 := by omega
          have c0 := B.out.at 0 _ rfl
          have c1 := B.out.at 1 _ rfl
          have c2 := B.out.at 2 _ rfl
          have c3 := B.out.at 3 _ rfl
          have c4 := B.out.at 4 _ rfl
          have c5 := B.out.at 5 _ rfl
          go_wp2_with fail
          refine (kj.out _).mono ?_
          rintro e w3 ⟨rfl, hb3⟩
          replace U := Lib.hid (U.out.later hb3)
          replace B := Lib.hid (B.out.later hb3)
          clear hb3 c0 c1 c2 c3 c4 c5
          have hgl := B.out.lt
          have c0 := B.out.at 0 _ rfl
          have c1 := B.out.at 1 _ rfl
          have c2 := B.out.at 2 _ rfl
          have c3 := B.out.at 3 _ rfl
          have c4 := B.out.at 4 _ rfl
          have c5 := B.out.at 5 _ rfl
          have z0 := B.out.frozen
          have hM := HM.out
          have hvv := HV.out.symm
          have hg1 : g < w3.heap.size + 1 := by omega
          have hg2 : g < w3.heap.size + 1 + 1 := by omega
          go_wp2_with fail
          go_roundg (gk - 1)
          case measure => omega
          case rel => exact ⟨j + 1, y0, y1, y2, y3, y4, y5, by omega, by go_num, HY, Lib.hid (Blk.push (Blk.push (Blk.push (B.out.setRow [.bool y0, .int .u8 y1, .int .u8 y2, .int .u32 y3, .int .i64 y4, .int .i64 y5] rfl) _) _) _), Lib.hid (Bel.push (Bel.push (Bel.push (below_setRow (by exact HGW.out) [.bool y0, .int .u8 y1, .int .u8 y2, .int .u32 y3, .int .i64 y4, .int .i64 y5] _ 0 U.out) _) _) _)⟩
        · obtain rfl : j = 3 := by omega
          have hz := HX.out
          simp only [st, if_pos (show 3 ≤ 3 by decide), Ev.Snd.zero, Ev.Snd.mk.injEq] at hz
          obtain ⟨rfl, rfl, rfl, rfl, rfl, rfl⟩ := hz
          have c0 := B.out.at 0 _ rfl
          have c1 := B.out.at 1 _ rfl
          have c2 := B.out.at 2 _ rfl
          have c3 := B.out.at 3 _ rfl
          have c4 := B.out.at 4 _ rfl
          have c5 := B.out.at 5 _ rfl
          go_wp2_with fail
          refine (kz.out _).mono ?_
          rintro e w3 ⟨rfl, hb3⟩
          replace U := Lib.hid (U.out.later hb3)
          replace B := Lib.hid (B.out.later hb3)
          clear hb3 c0 c1 c2 c3 c4 c5
          have hgl := B.out.lt
          have c0 := B.out.at 0 _ rfl
          have c1 := B.out.at 1 _ rfl
          have c2 := B.out.at 2 _ rfl
          have c3 := B.out.at 3 _ rfl
          have c4 := B.out.at 4 _ rfl
          have c5 := B.out.at 5 _ rfl
          have hg1 : g < w3.heap.size + 1 := by omega
          go_wp2_with fail
          refine (lives29 _).mono ?_
          rintro e w4 ⟨rfl, hb4⟩
          go_wp2_with fail
          go_ret
          exact ⟨rfl, ((U.out.push _).push _).later hb4⟩
theorem walk (w : World) (c : Int) (h1 : (Lit.int .u8 c).wf = true) (v : Int) (h2 : (Lit.int .u8 v).wf = true) (t : Int) (h3 : (Lit.int .u32 t).wf = true) (fr : Int) (h4 : (Lit.int .u16 fr).wf = true) (sa : Int) (h5 : (Lit.int .u16 sa).wf = true) :
    Calls Try.prog 7 #[.int .u8 c, .int .u8 v, .int .u32 t, .int .u16 fr, .int .u16 sa] w fun e w' => e = .returned (.bool true) ∧ Below w.heap.size w w' := by
  have q2 : 0 ≤ v ∧ v ≤ 255 := by simpa [Lit.wf, IntKind.min, IntKind.max, IntKind.signed, IntKind.bits] using h2
  have q4 : 0 ≤ fr ∧ fr ≤ 65535 := by simpa [Lit.wf, IntKind.min, IntKind.max, IntKind.signed, IntKind.bits] using h4
  have q5 : 0 ≤ sa ∧ sa ≤ 65535 := by simpa [Lit.wf, IntKind.min, IntKind.max, IntKind.signed, IntKind.bits] using h5
  exact main w c v t fr sa q2.1 q2.2 q4.1 q4.2 q5.1 q5.2
end Go.Proofs.Ytangooegialmcaa.eventsFrames

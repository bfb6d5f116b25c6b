/- Layer 25, PacketCounts: for every number and steps the law returns true. -/
import Derived.Test.YtbpcpgmbfnmacaaPkLives
import Derived.Test.YtbpcpgmbfnmacaaPkTypes
import Derived.Test.YtbpcpgmbfnmacaaLate
namespace Go.Proofs.Ytbpcpgmbfnmacaa.packetCounts
open Go.RowKit
set_option linter.unusedVariables false
set_option linter.unusedSimpArgs false
attribute [local go_sem ↓] run_min_plain run_max_plain
attribute [local go_sem] setCell_drewN alloc_drewN
theorem near_want (H W : Int) (h0 : 0 ≤ H) (h1 : H ≤ 281474976710656) (w0 : H - 100 ≤ W) (w1 : W ≤ H + 3000) : Pk.near H (W % 65536) 65536 = W := by
  unfold Pk.near
  rw [if_neg (by omega)]
  have e : (W % 65536 - H) % 65536 = (W - H) % 65536 := by omega
  rw [e]
  split <;> omega
theorem follow_want (H W : Int) (h0 : 0 ≤ H) (h1 : H ≤ 281474976710656) (w0 : H - 100 ≤ W) (w1 : W ≤ H + 3000) (w2 : 0 ≤ W) : Pk.follow ⟨true, H, -1⟩ (W % 65536) = (⟨true, max H W, -1⟩, W, true) := by
  unfold Pk.follow
  have hok : Pk.Tr.ok ⟨true, H, -1⟩ := ⟨h0, h1, by simp, by simp⟩
  rw [if_neg (fun h => h hok), if_neg (by simp)]
  simp only [near_want H W h0 h1 w0 w1]
  rw [if_pos ⟨w2, w1, w0⟩]
theorem tmod_bd (s m : Int) (hm : 0 < m) : -m < s.tmod m ∧ s.tmod m < m ∧ (0 ≤ s → 0 ≤ s.tmod m) ∧ (s < 0 → s.tmod m ≤ 0) := by
  have h1 := Int.tmod_lt_of_pos s hm
  by_cases h : 0 ≤ s
  · have h2 := Int.tmod_nonneg m h
    exact ⟨by omega, h1, fun _ => h2, fun h3 => by omega⟩
  · have h2 := Int.tmod_nonneg m (show 0 ≤ -s by omega)
    have h3 := Int.tmod_lt_of_pos (-s) hm
    have h4 : (-s).tmod m = -(s.tmod m) := Int.neg_tmod s m
    rw [h4] at h2 h3
    exact ⟨by omega, by omega, fun h5 => absurd h5 h, fun _ => by omega⟩
theorem wf_i16 {z : Int} (h : (Lit.int .i16 z).wf = true) : -32768 ≤ z ∧ z ≤ 32767 := by simpa [Lit.wf, IntKind.min, IntKind.max, IntKind.signed, IntKind.bits] using h
set_option maxRecDepth 100000 in
set_option maxHeartbeats 6400000 in
theorem walk (w : World) (first : Int) (w0 : (Lit.int .u16 first).wf = true) (A : Option Addr) (l : List Int) (cap : Nat) (hl : l.length ≤ cap) (hm : cap ≤ maxLen) (hA : IntsAt w w.heap.size .i16 A l) (hw : ∀ z ∈ l, (Lit.int .i16 z).wf = true) :
    Calls Try.prog 8 #[.int .u16 first, .slice A l.length cap] w fun e w' => e = .returned (.bool true) ∧ Below w.heap.size w w' := by
  have hz : Within (-32768) 32767 l := fun z hz => wf_i16 (hw z hz)
  unfold maxLen at hm
  obtain ⟨f0, f1⟩ := wf_u16 w0
  have k1 := fun W => Follow_any false 0 0 first W f0 f1 (by decide) (by decide) (by decide) (by decide)
  have hf0 : Pk.follow ⟨false, 0, 0⟩ first = (⟨true, first, -1⟩, first, true) := by
    unfold Pk.follow
    rw [if_neg (fun h => h ⟨by decide, by decide, by decide, by decide⟩), if_pos rfl]
  rw [hf0] at k1
  simp only [Pk.Tr.row] at k1
  have K1 := Lib.hid k1
  have HA := Lib.hid hA
  have HZ := Lib.hid hz
  clear k1 hf0 hA hz hw w0
  go_enter Try.func8, Try.ntmps8
  have U := Lib.hid (Bel.refl w)
  go_wp2_with fail
  refine (K1.out _).mono ?_
  rintro e w1 ⟨rfl, hb1⟩
  replace U := Lib.hid (U.out.later hb1)
  have HG : Hid (w.heap.size ≤ w1.heap.size) := Lib.hid U.out.size
  replace U := Lib.hid (U.out.push (.cells #[.bool true, .int .i64 first, .int .i64 (-1)] 40))
  have B := Lib.hid (Blk.new w1 40 #[.bool true, .int .i64 first, .int .i64 (-1)])
  clear hb1
  go_wp2_with fail
  obtain ⟨g0, hg0⟩ : ∃ g, g = w1.heap.size := ⟨_, rfl⟩
  rw [← hg0] at B HG ⊢
  clear hg0
  go_loopg [8, 9] l.length (fun gk s8 s9 wr => ∃ (k : Nat) (H : Int), gk + k = l.length ∧ s8 = .int .i64 H ∧ s9 = .int .i64 k ∧ Hid (0 ≤ H ∧ H ≤ 65535 + 3000 * k ∧ k ≤ 300) ∧ Hid (Blk wr g0 40 #[.bool true, .int .i64 H, .int .i64 (-1)]) ∧ Hid (Bel w wr))
  case atStart => exact ⟨0, first, rfl, rfl, rfl, Lib.hid ⟨f0, by omega, by omega⟩, B, U⟩
  case round =>
    clear B U
    obtain ⟨k, H, hgk, rfl, rfl, HH, B, U⟩ := hrel
    have hi0 : (0 : Int) ≤ (k : Int) := by omega
    have r1' := B.out.at 1 _ rfl
    by_cases hlt : k < l.length
    rotate_left
    · have hi1 : (l.length : Int) ≤ (k : Int) := by omega
      go_wp2_with fail
      refine (lives25 _).mono ?_
      rintro e w9 ⟨rfl, hb⟩
      go_wp2_with fail
      go_ret
      exact ⟨by simp, U.out.later hb⟩
    have hi1 : (k : Int) < (l.length : Int) := by omega
    by_cases h300 : k < 300
    rotate_left
    · have hi2 : (300 : Int) ≤ (k : Int) := by omega
      go_wp2_with fail
      refine (lives25 _).mono ?_
      rintro e w9 ⟨rfl, hb⟩
      go_wp2_with fail
      go_ret
      exact ⟨by simp, U.out.later hb⟩
    have hi2 : (k : Int) < 300 := by omega
    obtain ⟨h0, h1, h2⟩ := HH.out
    have hce : ∃ b off, A = some ⟨b, off, none⟩ ∧ b < w.heap.size ∧ wr.cell? ⟨b, off + k, none⟩ = some (.int .i16 (l.getD k 0)) := by
      obtain ⟨b, off, e1, e2, e3⟩ := (HA.out.below U.out) (by omega)
      exact ⟨b, off, e1, e2, e3 k hlt⟩
    obtain ⟨b, off, rfl, hbB, ec⟩ := hce
    obtain ⟨q0, q1⟩ := HZ.out.at (i := k) hlt
    generalize l.getD k 0 = s at *
    obtain ⟨a1, a2, a3, a4⟩ := tmod_bd s 3101 (by decide)
    obtain ⟨b1, b2, b3, b4⟩ := tmod_bd s 101 (by decide)
    obtain ⟨u1, hu1⟩ : ∃ u, s.tmod 3101 = u := ⟨_, rfl⟩
    obtain ⟨u2, hu2⟩ : ∃ u, s.tmod 101 = u := ⟨_, rfl⟩
    rw [hu1] at a1 a2 a3 a4
    rw [hu2] at b1 b2 b3 b4
    obtain ⟨W, hW⟩ : ∃ W, W = if s < 0 then H + u2 else H + u1 - 100 := ⟨_, rfl⟩
    have hwb : H - 100 ≤ W ∧ W ≤ H + 3000 := by rw [hW]; split <;> omega
    obtain ⟨v1, v2⟩ := hwb
    have hH : H ≤ 965535 := by omega
    have v3 : W - H ≤ 3000 := by omega
    have hcc : s < 0 ∧ H + u2 = W ∨ 0 ≤ s ∧ H + u1 - 100 = W := by
      by_cases hs : s < 0
      · left; rw [if_pos hs] at hW; exact ⟨hs, hW.symm⟩
      · right; rw [if_neg hs] at hW; exact ⟨by omega, hW.symm⟩
    clear hW a3 a4 b3 b4
    by_cases hneg : W < 0
    · rcases hcc with ⟨hs, hw⟩ | ⟨hs, hw⟩
      · have c1 : -9000 ≤ H + u1 := by omega
        have c2 : H + u1 ≤ 2000000 := by omega
        go_wp2_with fail
        go_roundg (gk - 1)
        case measure => omega
        case rel => exact ⟨k + 1, H, by omega, rfl, by go_num, Lib.hid ⟨h0, by omega, by omega⟩, B, U⟩
      · have c1 : -9000 ≤ H + u1 := by omega
        have c2 : H + u1 ≤ 2000000 := by omega
        have hs2 : ¬s < 0 := by omega
        go_wp2_with fail
        go_roundg (gk - 1)
        case measure => omega
        case rel => exact ⟨k + 1, H, by omega, rfl, by go_num, Lib.hid ⟨h0, by omega, by omega⟩, B, U⟩
    have k2 := fun V => Follow_any true H (-1) (W % 65536) V (by omega) (by omega) (by omega) (by omega) (by decide) (by decide)
    rw [follow_want H W h0 (by omega) v1 v2 (by omega)] at k2
    simp only [Pk.Tr.row] at k2
    have K2 := Lib.hid k2
    have hu16 : IntKind.u16.wrap W = W % 65536 := u16_wrap W
    have hw0 : 0 ≤ W := by omega
    have hw1 : W ≤ 2000000 := by omega
    have hmx : H ≤ max H W ∧ max H W ≤ H + 3000 ∧ 0 ≤ max H W := by omega
    have HMX := Lib.hid hmx
    have r0' := B.out.at 0 _ rfl
    have r2' := B.out.at 2 _ rfl
    have z := B.out.frozen
    clear k2 hneg hmx
    rcases hcc with ⟨hs, hw⟩ | ⟨hs, hw⟩
    all_goals
      have c1 : -9000 ≤ H + u1 := by omega
      have c2 : H + u1 ≤ 2000000 := by omega
      have hs2 : s < 0 ∨ ¬s < 0 := by omega
      clear hs2
      go_wp2_with fail
      refine (K2.out _).mono ?_
      rintro e w2 ⟨rfl, hb2⟩
      have U2 := Lib.hid (U.out.later hb2)
      have B2 := Lib.hid (B.out.later hb2)
      have hgl : g0 < w2.heap.size := (B.out.later hb2).lt
      have y0 := (B.out.later hb2).at 0 _ rfl
      have y1 := (B.out.later hb2).at 1 _ rfl
      have y2 := (B.out.later hb2).at 2 _ rfl
      have z2 := (B.out.later hb2).frozen
      have hne : ¬g0 = w2.heap.size := by omega
      clear hb2 r0' r1' r2' z
      go_wp2_with fail
      go_roundg (gk - 1)
      case measure => omega
      case rel =>
        obtain ⟨d1, d2, d3⟩ := HMX.out
        refine ⟨k + 1, max H W, by omega, rfl, by go_num, Lib.hid ⟨d3, by omega, by omega⟩, ?_, ?_⟩
        · exact Lib.hid ((Blk.setRow B2.out [.bool true, .int .i64 (max H W), .int .i64 (-1)] rfl).push _)
        · exact Lib.hid (Bel.push (below_setRow HG.out [.bool true, .int .i64 (max H W), .int .i64 (-1)] _ 0 U2.out) _)
end Go.Proofs.Ytbpcpgmbfnmacaa.packetCounts

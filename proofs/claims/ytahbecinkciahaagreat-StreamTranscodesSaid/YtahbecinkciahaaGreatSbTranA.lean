/- Layer 32: Transcode, in one word. -/
import Derived.Test.YtahbecinkciahaaGreatSbTrans
namespace Go.Proofs.YtahbecinkciahaaGreat
open Go.RowKit
set_option linter.unusedVariables false
set_option linter.unusedSimpArgs false
attribute [local go_sem ↓] run_min_plain run_max_plain
attribute [local go_sem] setCell_drewN alloc_drewN
theorem tran_any (a b : Int) (a0 : 0 ≤ a) (a1 : a ≤ 255) (b0 : 0 ≤ b) (b1 : b ≤ 255) (A : Option Addr) (bs : List Int) (c : Nat) (v i : Int) (w : World) (hA : IntsAt w w.heap.size .u8 A bs) (hz : Within 0 255 bs) (h8 : bs.length ≤ 5000) (hc : bs.length ≤ c) : Calls Tryz.prog 8 #[.int .u8 a, .int .u8 b, .slice A bs.length c, .agg #[.int .i64 v, .int .i64 i]] w (TranR (Sb.tran a b bs v i) w) := by
  by_cases ha : speechB a = true
  rotate_left
  · rw [show Sb.tran a b bs v i = ([], (0, 0), 15) by unfold Sb.tran; rw [if_pos (Or.inl (by simpa using ha))]]
    exact tr_no1 a a0 a1 (fun h => ha (speechB_t h)) b b0 b1 A bs c v i w hA hz h8 hc
  by_cases hb : speechB b = true
  rotate_left
  · rw [show Sb.tran a b bs v i = ([], (0, 0), 15) by unfold Sb.tran; rw [if_pos (Or.inr (by simpa using hb))]]
    rcases speechB_iff.1 ha with rfl | rfl | rfl
    · exact tr_no2_0 b b0 b1 (fun h => hb (speechB_t h)) A bs c v i w hA hz h8 hc
    · exact tr_no2_8 b b0 b1 (fun h => hb (speechB_t h)) A bs c v i w hA hz h8 hc
    · exact tr_no2_96 b b0 b1 (fun h => hb (speechB_t h)) A bs c v i w hA hz h8 hc
  rcases speechB_iff.1 ha with rfl | rfl | rfl
  · rcases speechB_iff.1 hb with rfl | rfl | rfl
    · exact tr_0_0 A bs c v i w hA hz h8 hc
    · exact tr_0_8 A bs c v i w hA hz h8 hc
    · exact tr_0_96 A bs c v i w hA hz h8 hc
  · rcases speechB_iff.1 hb with rfl | rfl | rfl
    · exact tr_8_0 A bs c v i w hA hz h8 hc
    · exact tr_8_8 A bs c v i w hA hz h8 hc
    · exact tr_8_96 A bs c v i w hA hz h8 hc
  · by_cases h4 : bs.length < 4
    · rw [show Sb.tran 96 b bs v i = ([], (0, 0), 6) by unfold Sb.tran; rw [if_neg (by simp [ha, hb]), if_pos ⟨rfl, h4⟩]]
      rcases speechB_iff.1 hb with rfl | rfl | rfl
      · exact tr_short_0 A bs c v i w hA hz h8 hc h4
      · exact tr_short_8 A bs c v i w hA hz h8 hc h4
      · exact tr_short_96 A bs c v i w hA hz h8 hc h4
    · rcases speechB_iff.1 hb with rfl | rfl | rfl
      · exact tr_96_0 A bs c v i w hA hz h8 hc h4
      · exact tr_96_8 A bs c v i w hA hz h8 hc h4
      · exact tr_96_96 A bs c v i w hA hz h8 hc h4
end Go.Proofs.YtahbecinkciahaaGreat

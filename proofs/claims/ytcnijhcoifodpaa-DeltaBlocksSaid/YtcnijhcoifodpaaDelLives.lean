/- Layer 28: Same, size, lives. -/
import Derived.Test.YtcnijhcoifodpaaDelLaws
import Derived.Test.YtcnijhcoifodpaaFrame
namespace Go.Proofs.Ytcnijhcoifodpaa
open Go.RowKit
set_option linter.unusedVariables false
attribute [local go_sem ↓] run_min_plain run_max_plain
attribute [local go_sem] setCell_drewN alloc_drewN
set_option maxHeartbeats 400000 in
theorem same28 (A B : Option Addr) (zs : List Int) (c d : Nat) (w : World) (hA : IntsAt w w.heap.size .i16 A zs) (hB : IntsAt w w.heap.size .i16 B zs) (h63 : zs.length ≤ 140737488355328) :
    Calls Try.prog 23 #[.slice A zs.length c, .slice B zs.length d] w fun e w' => e = .returned (.bool true) ∧ Below w.heap.size w w' := by
  go_enter Try.func23, Try.ntmps23
  go_wp2
  go_loopw [5] (fun i wr => ∃ k : Nat, k ≤ zs.length ∧ i = .int .i64 k ∧ Below w.heap.size w wr) (fun i _ => zs.length - (intOf i).toNat)
  case atStart => exact ⟨0, Nat.zero_le _, rfl, Below.refl _ _⟩
  case round =>
    obtain ⟨k, hk, rfl, hb⟩ := hrel
    by_cases hlt : k < zs.length
    · obtain ⟨b, off, rfl, hbB, hcell⟩ := hA (by omega)
      obtain ⟨b2, off2, rfl, hbB2, hcell2⟩ := hB (by omega)
      have hck : wr.cell? ⟨b, off + k, none⟩ = some (.int .i16 (zs.getD k 0)) := (hb.cell (p := ⟨b, off + k, none⟩) hbB).trans (hcell k hlt)
      have hck2 : wr.cell? ⟨b2, off2 + k, none⟩ = some (.int .i16 (zs.getD k 0)) := (hb.cell (p := ⟨b2, off2 + k, none⟩) hbB2).trans (hcell2 k hlt)
      clear hcell hcell2
      generalize zs.getD k 0 = z at hck hck2
      have hi0 : (0 : Int) ≤ (k : Int) := by omega
      have hi1 : (k : Int) < (zs.length : Int) := by omega
      go_wp2
      go_quiet (fail)
      go_wp2
      go_roundw
      case rel => exact ⟨k + 1, by omega, by go_num, below_drewN hb _⟩
      case measure => simp [intOf]; omega
    · go_wp2
      go_ret
      exact ⟨rfl, hb⟩
theorem size28 (n : Int) (w : World) (h0 : -1099511627776 ≤ n) (h1 : n ≤ 1099511627776) :
    Calls Try.prog 13 #[.int .i64 n] w fun e w' => e = .returned (.int .i64 (n.natAbs : Int)) ∧ w = w' := by
  by_cases hn : n < 0
  all_goals
    go_enter Try.func13, Try.ntmps13
    go_wp2
    go_ret
    exact ⟨ret_int' (by omega), rfl⟩
theorem enc10 : Dlt.encR 0 0 10 = (5, 9, 4, 0) := by decide +kernel
theorem dec16 : Dlt.decR 0 0 16 = (0, 0, 0, 3) := by decide +kernel
theorem pack3 : Dlt.packR 0 0 [10, -1, 20] = ([0, 0, 0, 0, 91, 112], 18, 11, 0) := by decide +kernel
set_option maxHeartbeats 1600000 in
theorem lives_any (w : World) : Calls Try.prog 11 #[] w fun e w' => e = .returned (.bool true) ∧ Below w.heap.size w w' := by
  have k1 := fun W => Encode_any 0 0 10 W (by omega) (by omega)
  rw [enc10] at k1
  have k2 := fun W => Decode_any 0 0 16 W (by omega)
  rw [dec16] at k2
  have k3 := fun W A cap hA => Pack_any 0 0 W A [10, -1, 20] cap hA (fun z hz => by simp at hz; rcases hz with rfl | rfl | rfl <;> omega)
  rw [pack3] at k3
  go_enter Try.func11, Try.ntmps11
  go_wp2_with fail
  refine (k1 _).mono ?_
  rintro e w1 ⟨rfl, hb1⟩
  go_wp2_with fail
  refine (k2 _).mono ?_
  rintro e w2 ⟨rfl, hb2⟩
  have HB1 := Lib.hid ((Blk.new w1 23 #[.int .i64 9, .int .i64 4]).later hb2)
  have HBW2 := Lib.hid ((hb1.alloc hb1.size _).trans (hb2.mono (by have := hb1.size; simp; omega)))
  have hs2 : w1.heap.size < w2.heap.size := by have := hb2.size; simp at this; omega
  clear hb2 hb1
  go_wp2_with fail
  have hnew := IntsAt.new (w2.alloc (.cells #[.int .i64 0, .int .i64 0] 23)) 24 .i16 [10, -1, 20] [.int .i16 10, .int .i16 (-1), .int .i16 20] rfl
  rw [show (w2.alloc (.cells #[.int .i64 0, .int .i64 0] 23)).heap.size = w2.heap.size + 1 by simp] at hnew
  refine (k3 _ _ 3 hnew).mono ?_
  rintro e w3 ⟨A3, c3, rfl, hA3, hb3⟩
  have HB1' := Lib.hid (((((HB1.out.alloc (.cells #[.int .i64 0, .int .i64 0] 23)).alloc (.cells [.int .i16 10, .int .i16 (-1), .int .i16 20].toArray 24)).later hb3).alloc (.cells #[.int .i64 18, .int .i64 11] 23)))
  have hs1 := HBW2.out.size
  have HBW3 := Lib.hid (((HBW2.out.alloc (by omega) (.cells #[.int .i64 0, .int .i64 0] 23)).alloc (by simp; omega) (.cells [.int .i16 10, .int .i16 (-1), .int .i16 20].toArray 24)).trans (hb3.mono (by simp; omega)))
  have c1 := HB1'.out.at 0 _ rfl
  have c2 := HB1'.out.at 1 _ rfl
  have hv1 := run_convert_ints (hA3.alloc (Nat.le_refl _) (.cells #[.int .i64 18, .int .i64 11] 23)) 37 9 5 Try.underlying37 Try.underlying5 Try.underlying9 6 c3 rfl
  have hlit := IntsAt.new (w3.alloc (.cells #[.int .i64 18, .int .i64 11] 23)) 5 .u8 [0, 0, 0, 0, 91, 112] [.int .u8 0, .int .u8 0, .int .u8 0, .int .u8 0, .int .u8 91, .int .u8 112] rfl
  have hv2 := run_convert_ints hlit 37 9 5 Try.underlying37 Try.underlying5 Try.underlying9 6 6 rfl
  rw [show (w3.alloc (.cells #[.int .i64 18, .int .i64 11] 23)).heap.size = w3.heap.size + 1 by simp] at hv2
  clear hb3 hnew hlit hA3 k1 k2 k3
  go_wp2_with fail
  go_ret
  exact ⟨rfl, (HBW3.out.alloc (by have := HBW3.out.size; omega) _).alloc (by have := HBW3.out.size; simp; omega) _⟩
end Go.Proofs.Ytcnijhcoifodpaa

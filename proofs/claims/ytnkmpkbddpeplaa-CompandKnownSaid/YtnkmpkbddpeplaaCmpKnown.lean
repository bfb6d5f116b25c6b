/- Layer 27, CompandKnown: the law returns true. -/
import Derived.Test.YtnkmpkbddpeplaaCmpLaws
import Derived.Test.YtnkmpkbddpeplaaFrame
namespace Go.Proofs.Ytnkmpkbddpeplaa.compandKnown
open Go.RowKit
set_option linter.unusedVariables false
theorem k1 : Cmp.mu 0 = 255 ∧ Cmp.mu (-1) = 127 ∧ Cmp.mu 32767 = 128 ∧ Cmp.mu (-32768) = 0 ∧ Cmp.fromMuZ 128 = 32124 ∧ Cmp.fromMuZ 0 = -32124 := by decide +kernel
theorem k2 : Cmp.aCode 0 = 213 ∧ Cmp.aCode (-1) = 85 ∧ Cmp.aCode 32767 = 170 ∧ Cmp.aCode (-32768) = 42 ∧ Cmp.fromAZ 213 = 8 ∧ Cmp.fromAZ 85 = -8 ∧ Cmp.fromAZ 170 = 32256 ∧ Cmp.fromAZ 42 = -32256 := by decide +kernel
theorem k3 : packOut 1 [0, -1] = [255, 127] ∧ packErr 1 2 = 0 ∧ unpackOut 2 [213] = [8] ∧ packErr 2 1 = 0 := by decide +kernel
theorem pack0 (w : World) (A : Option Addr) (hA : IntsAt w w.heap.size .i16 A [0, -1]) :
    Calls Try.prog 21 #[.int .u8 1, .slice A 2 2] w fun e w' => ∃ (A' : Option Addr) (c' : Nat), e = .returned (.tuple #[.slice A' 2 c', .int .u8 0]) ∧ IntsAt w' w'.heap.size .u8 A' [255, 127] ∧ Below w.heap.size w w' := by
  have h := Pack_all 1 A [0, -1] 2 w hA (by intro z hz; simp at hz; omega)
  rw [show ([0, -1] : List Int).length = 2 from rfl, k3.1, k3.2.1] at h
  exact h
theorem unpack0 (w : World) (A : Option Addr) (hA : IntsAt w w.heap.size .u8 A [213]) :
    Calls Try.prog 23 #[.int .u8 2, .slice A 1 1] w fun e w' => ∃ (A' : Option Addr) (c' : Nat), e = .returned (.tuple #[.slice A' 1 c', .int .u8 0]) ∧ IntsAt w' w'.heap.size .i16 A' [8] ∧ Below w.heap.size w w' := by
  have h := Unpack_all 2 A [213] 1 w hA (by intro z hz; simp at hz; omega)
  rw [show ([213] : List Int).length = 1 from rfl, k3.2.2.1, k3.2.2.2] at h
  exact h
set_option maxHeartbeats 800000 in
theorem walk (w : World) : Calls Try.prog 7 #[] w fun e w' => e = .returned (.bool true) ∧ Below w.heap.size w w' := by
  obtain ⟨a1, a2, a3, a4, a5, a6⟩ := k1
  obtain ⟨b1, b2, b3, b4, b5, b6, b7, b8⟩ := k2
  go_enter Try.func7, Try.ntmps7
  go_wp2_with fail
  have hn1 := IntsAt.new w 22 .i16 [0, -1] _ rfl
  have hal : Below w.heap.size w (w.alloc (.cells #[.int .i16 0, .int .i16 (-1)] 22)) := (Below.refl _ _).alloc (Nat.le_refl _) _
  refine (pack0 _ _ hn1).mono ?_
  rintro e w1 ⟨A1, c1, rfl, hA1, hb1⟩
  have hbw : Below w.heap.size w w1 := hal.trans (hb1.mono hal.size)
  clear hn1 hal hb1
  go_wp2_with fail
  have hn2 := IntsAt.new w1 5 .u8 [213] _ rfl
  have hal : Below w1.heap.size w1 (w1.alloc (.cells #[.int .u8 213] 5)) := (Below.refl _ _).alloc (Nat.le_refl _) _
  refine (unpack0 _ _ hn2).mono ?_
  rintro e w2 ⟨A2, c2, rfl, hA2, hb2⟩
  have hb2' : Below w1.heap.size w1 w2 := hal.trans (hb2.mono hal.size)
  have hbw2 : Below w.heap.size w w2 := hbw.trans (hb2'.mono hbw.size)
  have hA1' := hA1.later hb2'
  clear hn2 hal hb2 hbw hb2' hA1
  obtain ⟨g, o, rfl, hg, hcell⟩ := hA2 (by decide)
  have hc0 : w2.cell? ⟨g, o, none⟩ = some (.int .i16 8) := hcell 0 (by decide)
  have hv1 := run_convert_ints hA1' 32 9 5 Try.underlying32 Try.underlying5 Try.underlying9 2 c1 rfl
  have hv2 := run_convert_ints (IntsAt.new w2 5 .u8 [255, 127] [.int .u8 255, .int .u8 127] rfl) 32 9 5 Try.underlying32 Try.underlying5 Try.underlying9 2 2 rfl
  have hb3 : Below w.heap.size w (w2.alloc (.cells #[.int .u8 255, .int .u8 127] 5)) := hbw2.alloc hbw2.size _
  have HB := Lib.hid hb3
  clear hcell hb3 hA1' hbw2
  go_wp2_with (first
    | (go_at_call 11; refine (Mu_any _ _ (by omega) (by omega)).mono ?_; rintro e w' ⟨rfl, rfl⟩)
    | (go_at_call 13; refine (A_any _ _ (by omega) (by omega)).mono ?_; rintro e w' ⟨rfl, rfl⟩)
    | (go_at_call 10; refine (FromMu_z _ _ (by omega) (by omega)).mono ?_; rintro e w' ⟨rfl, rfl⟩)
    | (go_at_call 12; refine (FromA_z _ _ (by omega) (by omega)).mono ?_; rintro e w' ⟨rfl, rfl⟩)
    | (go_at_call 14; refine (lives27 _).mono ?_; rintro e w9 ⟨rfl, hb9⟩))
  go_ret
  have h9 := HB.out.size
  exact ⟨rfl, HB.out.trans (hb9.mono h9)⟩
end Go.Proofs.Ytnkmpkbddpeplaa.compandKnown

/- Layer 27, CompandCodes, CompandPacks, CompandAgain, CompandKnown: for every input each law returns true. -/
import Derived.Test.YtnkmpkbddpeplaaCmpLaws
namespace Go.Proofs.Ytnkmpkbddpeplaa.compandCodes
open Go.RowKit
set_option linter.unusedVariables false
set_option maxHeartbeats 400000 in
theorem walk (w : World) (x : Int) (w0 : (Lit.int .i16 x).wf = true) (b : Int) (w1 : (Lit.int .u8 b).wf = true) :
    Calls Try.prog 4 #[.int .i16 x, .int .u8 b] w fun e w' => e = .returned (.bool true) ∧ Below w.heap.size w w' := by
  have hx : -32768 ≤ x ∧ x ≤ 32767 := by simpa [Lit.wf, IntKind.min, IntKind.max, IntKind.signed, IntKind.bits] using w0
  have hb : 0 ≤ b ∧ b ≤ 255 := by simpa [Lit.wf, IntKind.min, IntKind.max, IntKind.signed, IntKind.bits] using w1
  clear w0 w1
  obtain ⟨n, rfl⟩ := Int.eq_ofNat_of_zero_le hb.1
  have hn : n < 256 := by omega
  obtain ⟨h0, h1⟩ := hx
  have hb1 := Cmp.fromMu_bd n hn
  have hb2 := Cmp.fromA_bd n hn
  clear hb
  obtain ⟨b1, b2⟩ := hb1
  obtain ⟨b3, b4⟩ := hb2
  go_enter Try.func4, Try.ntmps4
  go_wp2_with (first
    | (go_at_call 11; refine (Mu_any _ _ (by omega) (by omega)).mono ?_; rintro e w' ⟨rfl, rfl⟩)
    | (go_at_call 15; refine (rMu_any _ _ (by omega) (by omega)).mono ?_; rintro e w' ⟨rfl, rfl⟩)
    | (go_at_call 13; refine (A_any _ _ (by omega) (by omega)).mono ?_; rintro e w' ⟨rfl, rfl⟩)
    | (go_at_call 16; refine (rA_any _ _ (by omega) (by omega)).mono ?_; rintro e w' ⟨rfl, rfl⟩)
    | (go_at_call 10; refine (FromMu_any _ _ hn).mono ?_; rintro e w' ⟨rfl, rfl⟩)
    | (go_at_call 17; refine (rFromMu_any _ _ hn).mono ?_; rintro e w' ⟨rfl, rfl⟩)
    | (go_at_call 12; refine (FromA_any _ _ hn).mono ?_; rintro e w' ⟨rfl, rfl⟩)
    | (go_at_call 18; refine (rFromA_any _ _ hn).mono ?_; rintro e w' ⟨rfl, rfl⟩)
    | (go_at_call 19; refine (muToA _ _ hn).mono ?_; rintro e w' ⟨rfl, rfl⟩)
    | (go_at_call 20; refine (aToMu _ _ hn).mono ?_; rintro e w' ⟨rfl, rfl⟩)
    | (go_at_call 14; refine (lives27 _).mono ?_; rintro e w' ⟨rfl, hbel⟩))
  all_goals go_ret
  all_goals exact ⟨rfl, hbel⟩
end Go.Proofs.Ytnkmpkbddpeplaa.compandCodes

/- Same of two slices of 16-bit integers, of the reference of layer 27. -/
import Derived.Test.YtangooegialmcaaLaw
import Derived.Deep.QuietTactic
import Derived.BigQuiet
namespace Go.Proofs.Ytangooegialmcaa
open Go.RowKit
set_option linter.unusedVariables false
set_option maxHeartbeats 400000 in
theorem sameInts (A B : Option Addr) (zs : List Int) (n c d : Nat) (hn : zs.length = n) (w : World) (hA : IntsAt w w.heap.size .i16 A zs) (hB : IntsAt w w.heap.size .i16 B zs) (h63 : n ≤ 140737488355328) :
    Calls Try.prog 30 #[.slice A n c, .slice B n d] w fun e w' => e = .returned (.bool true) ∧ Below w.heap.size w w' := by
  subst hn
  go_enter Try.func30, Try.ntmps30
  go_wp2
  go_loopw [5] (fun i wr => ∃ k : Nat, k ≤ zs.length ∧ i = .int .i64 k ∧ Below w.heap.size w wr) (fun i _ => zs.length - (intOf i).toNat)
  case atStart => exact ⟨0, Nat.zero_le _, rfl, Below.refl _ _⟩
  case round =>
    obtain ⟨k, hk, rfl, hb⟩ := hrel
    by_cases hlt : k < zs.length
    · obtain ⟨b, off, rfl, hbB, hcell⟩ := hA (by omega)
      obtain ⟨b2, off2, rfl, hbB2, hcell2⟩ := hB (by omega)
      have hck : wr.cell? ⟨b, off + k, none⟩ = some (.int .i16 (zs.getD k 0)) := (hb.cell (p := ⟨b, off + k, none⟩) hbB).trans (hcell k hlt)
      have hck2 : wr.cell? ⟨b2, off2 + k, none⟩ = some (.int .i16 (zs.getD k 0)) := (hb.cell (p := ⟨b2, off2 + k, none⟩) hbB2).trans (hcell2 k hlt)
      clear hcell hcell2
      generalize zs.getD k 0 = z at hck hck2
      have hi0 : (0 : Int) ≤ (k : Int) := by omega
      have hi1 : (k : Int) < (zs.length : Int) := by omega
      go_wp2
      go_quiet (fail)
      go_wp2
      go_roundw
      case rel => exact ⟨k + 1, by omega, by go_num, Bel.drewN hb _⟩
      case measure => simp [intOf]; omega
    · go_wp2
      go_ret
      exact ⟨rfl, hb⟩
end Go.Proofs.Ytangooegialmcaa

/- Layer 26: few; equal lists of reports are the same. -/
import Derived.Test.YthmcbmjjngolmaaRepLives
import Derived.Test.YthmcbmjjngolmaaRepTypes
import Derived.BigRegion
import Derived.BigQuiet
import Derived.Deep.QuietTactic
namespace Go.Proofs.Ythmcbmjjngolmaa
open Go.RowKit
set_option linter.unusedVariables false
set_option linter.unusedSimpArgs false
attribute [local go_sem ↓] run_min_plain run_max_plain
attribute [local go_sem] setCell_drewN alloc_drewN
def FewR (n : Nat) (w : World) (e : Ending) (w' : World) : Prop := ∃ b, e = .returned (.bool b) ∧ w = w' ∧ (b = true → n ≤ 20)
set_option maxRecDepth 100000 in
set_option maxHeartbeats 1600000 in
theorem few_any (A : Option Addr) (l : List TR) (c : Nat) (w : World) (n : Nat) (hn : l.length = n) (hA : RowsAt w w.heap.size 7 TR.row A l) (hm : n ≤ maxLen) : Calls Try.prog 19 #[.slice A n c] w (FewR n w) := by
  subst hn
  unfold maxLen at hm
  have HA := Lib.hid hA
  clear hA
  go_enter Try.func19, Try.ntmps19
  go_wp2_with fail
  go_loop [3] (fun i => ∃ k : Nat, k ≤ l.length ∧ i = .int .i64 k) (fun i => l.length - (intOf i).toNat)
  case atStart => exact ⟨0, Nat.zero_le _, rfl⟩
  case round =>
    obtain ⟨k, hk, rfl⟩ := hrel
    have hi0 : (0 : Int) ≤ (k : Int) := by omega
    by_cases hlt : k < l.length
    · obtain ⟨a, ha⟩ : ∃ a, l[k]? = some a := ⟨_, List.getElem?_eq_getElem hlt⟩
      obtain ⟨b, off, rfl, hbB, e0, e1, e2, e3, e4, e5, e6⟩ := rowsT HA.out ha
      clear e0 e1 e2 e3 e4 e5 ha
      have hi1 : (k : Int) < (l.length : Int) := by omega
      by_cases hc : 40 < a.r.blocks.length
      · have hc' : (40 : Int) < (a.r.blocks.length : Int) := by omega
        go_wp2_with fail
        go_ret
        exact ⟨false, rfl, rfl, fun h => by cases h⟩
      · have hc' : (a.r.blocks.length : Int) ≤ 40 := by omega
        go_wp2_with fail
        go_round
        case rel => exact ⟨k + 1, by omega, by go_num⟩
        case measure => simp [intOf]; omega
    · obtain rfl : k = l.length := by omega
      have hi1 : (l.length : Int) ≤ (l.length : Int) := Int.le_refl _
      go_wp2_with fail
      go_ret
      exact ⟨_, rfl, rfl, fun h => by simp at h; omega⟩
end Go.Proofs.Ythmcbmjjngolmaa

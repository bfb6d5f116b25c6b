/- Layer 25: what stays of memory while the reference's Encode calls number. -/
import Derived.Test.YtbpcpgmbfnmacaaPkNum
import Derived.Test.YtbpcpgmbfnmacaaPkEncAll
import Derived.Deep.CutRange
import Derived.Deep.DeepCutAuto
namespace Go.Proofs.Ytbpcpgmbfnmacaa
open Go.RowKit
set_option linter.unusedVariables false
set_option linter.unusedSimpArgs false
attribute [local go_sem ↓] run_min_plain run_max_plain
attribute [local go_sem] setCell_drewN alloc_drewN
section
variable {w wx : World} {row : List Value} {A : Option Addr} {c : Nat} {out : List Int}
theorem EState.later {w' : World} (h : EState w wx row A c out) (hb : Below wx.heap.size wx w') : EState w w' row A c out := ⟨h.hb.later hb, h.hu.later hb, h.ho.below hb⟩
theorem EState.num (h : EState w wx row A c out) (x : Int) (n : Nat) (x0 : 0 ≤ x) (x1 : x ≤ 4294967295) (hn : n ≤ 8) : Calls Try.prog 29 #[.int .i64 x, .int .i64 n] wx fun e w' => ∃ (A2 : Option Addr) (c2 : Nat), e = .returned (.slice A2 n c2) ∧ Hid (IntsAt w' w'.heap.size .u8 A2 (be n x)) ∧ Hid (EState w w' row A c out) := by
  refine (rnumber_any wx x n x0 x1 hn).mono ?_
  rintro e w1 ⟨A2, c2, rfl, hI, hb⟩
  exact ⟨A2, c2, rfl, Lib.hid hI.1, Lib.hid (h.later hb)⟩
end
end Go.Proofs.Ytbpcpgmbfnmacaa

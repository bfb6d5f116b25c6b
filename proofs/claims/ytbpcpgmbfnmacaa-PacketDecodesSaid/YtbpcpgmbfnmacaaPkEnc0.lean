/- Layer 25: what Encode leaves. -/
import Derived.Test.YtbpcpgmbfnmacaaPkCheck
namespace Go.Proofs.Ytbpcpgmbfnmacaa
open Go.RowKit
set_option linter.unusedVariables false
set_option linter.unusedSimpArgs false
attribute [local go_sem ↓] run_min_plain run_max_plain
attribute [local go_sem] setCell_drewN alloc_drewN
def EncR (R : List Int × Int) (w : World) (e : Ending) (w' : World) : Prop :=
  ∃ (A : Option Addr) (c : Nat), e = .returned (.tuple #[.slice A R.1.length c, .int .u8 R.2]) ∧ IntsNew w.heap.size w' .u8 A R.1 ∧ Below w.heap.size w w'
theorem Owns.lit (w : World) (base : Nat) (e : TypeId) (cs : List Value) (n : Nat) (hb : base ≤ w.heap.size) (hm : n ≤ maxLen) (hn : cs.length = n) : Owns (w.alloc (.cells cs.toArray e)) base e 1 (some ⟨w.heap.size, 0, none⟩) n n cs := by
  have := World.ownsRow_lit (base := base) (e := e) (size := 1) w cs.toArray n hb hm (by simpa using hn)
  simpa [Owns] using this
end Go.Proofs.Ytbpcpgmbfnmacaa
